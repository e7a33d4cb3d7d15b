import Derived.Test.YtcnbeijlcndjpaaGt
import Derived.KernelRfl
import Derived.Test.YtcnbeijlcndjpaaGwF
import Derived.Test.YtcnbeijlcndjpaaGaSp2
namespace Go.Proofs.Gv
open Go.Proofs
set_option linter.unusedVariables false
noncomputable def vev11_0 (a : Int) (b : Int) (c : Int) (d : Int) : Int := bif bif decide (a < (0 : Int)) then true else bif decide (a > (16777215 : Int)) then true else bif decide (d < (0 : Int)) then true else decide (d > (2147483647 : Int)) then (8 : Int) else (0 : Int)
theorem ev11 (a : Int) (b : Int) (c : Int) (d : Int) : evFin (cfg Try.prog tab 100000 (gk k18 30) noLsp 11 ([] : List Blk).length Try.f11.ntmps) ([] : List Blk).length Try.f11.resultTypes.toList Try.f11 [.agg [.int .i64 a, .int .u8 b, .int .u8 c, .int .i64 d]] [] = bif true then some (true, AV.int IntKind.i64 (vev11_0 a b c d), []) else none := by
  have h : evFin (cfg Try.prog tab 100000 (gk k18 30) noLsp 11 ([] : List Blk).length Try.f11.ntmps) ([] : List Blk).length Try.f11.resultTypes.toList Try.f11 [.agg [.int .i64 a, .int .u8 b, .int .u8 c, .int .i64 d]] [] = bif bif decide (a < (0 : Int)) then true else bif bif false then true else decide (a > (16777215 : Int)) then true else bif bif false then true else decide (d < (0 : Int)) then true else true then bif bif decide (a < (0 : Int)) then true else bif bif false then true else decide (a > (16777215 : Int)) then true else bif bif false then true else decide (d < (0 : Int)) then true else bif false then true else decide (d > (2147483647 : Int)) then some (true, AV.int IntKind.i64 (8 : Int), []) else some (true, AV.int IntKind.i64 (0 : Int), []) else none := by kernel_rfl
  rw [h]
  clear h
  unfold vev11_0
  generalize (decide (d > (2147483647 : Int))) = c0
  generalize (decide (a < (0 : Int))) = c1
  generalize (decide (a > (16777215 : Int))) = c2
  generalize (decide (d < (0 : Int))) = c3
  cases c1
  · skip
    cases c2
    · skip
      cases c3
      · skip
        cases c0
        · skip
          rfl
        · skip
          rfl
      · skip
        rfl
    · skip
      rfl
  · skip
    rfl
-- spec true ;; (true, AV.int IntKind.i64 (vev11_0 a b c d), [])
noncomputable def sp11 : List AV → List Blk → Option (Bool × AV × List Blk)
  | [.agg [.int .i64 a, .int .u8 b, .int .u8 c, .int .i64 d]], [] => spW (true) (some ((true, AV.int IntKind.i64 (vev11_0 a b c d), [])))
  | _, _ => none
noncomputable def k11 : Gam := fun f T C => match Nat.beq f 11 with
  | true => (sp11 T C).or (k18 f T C)
  | false => k18 f T C
theorem k11_ok : GamOK Try.prog k11 := by
  intro f T C r outs h
  unfold k11 at h
  cases hf : Nat.beq f 11 with
  | false => rw [hf] at h; exact k18_ok f T C r outs h
  | true =>
    have hf' := Nat.eq_of_beq_eq_true hf
    subst hf'
    rw [hf] at h
    dsimp only at h
    cases hs : sp11 T C with
    | none => rw [hs] at h; exact k18_ok _ T C r outs h
    | some x =>
      rw [hs] at h
      have hx : x = (true, r, outs) := by simpa using h
      subst hx
      unfold sp11 at hs
      split at hs
      · rename_i a b c d
        obtain ⟨hb, rfl, rfl⟩ := spT_inv hs
        have he := ev11 a b c d
        obtain ⟨r0, o0, h0, he⟩ := evFin_inv he
        obtain ⟨h1, h2⟩ := fn_ok mixed plain (gk_ok k18_ok 30) Try.func11 (fun c _ => LoopsOK.none (fun _ _ => rfl) c) h0
        exact ⟨h1, h2.fin he⟩
      · cases hs
noncomputable def vev9_0 (a : Int) (b : Int) (c : Int) (d : Int) : List (List AV) := bif vev11_0 a b c d != (0 : Int) then [] else [[AV.int IntKind.u8 (IntKind.u8.wrap ((IntKind.u32.wrap a).fdiv ((2 : Int) ^ min (Int.toNat (16 : Int)) IntKind.u32.bits)))], [AV.int IntKind.u8 (IntKind.u8.wrap ((IntKind.u32.wrap a).fdiv ((2 : Int) ^ min (Int.toNat (8 : Int)) IntKind.u32.bits)))], [AV.int IntKind.u8 (IntKind.u8.wrap (IntKind.u32.wrap a))], [AV.int IntKind.u8 b], [AV.int IntKind.u8 c], [AV.int IntKind.u8 (IntKind.u8.wrap ((IntKind.u32.wrap d).fdiv ((2 : Int) ^ min (Int.toNat (24 : Int)) IntKind.u32.bits)))], [AV.int IntKind.u8 (IntKind.u8.wrap ((IntKind.u32.wrap d).fdiv ((2 : Int) ^ min (Int.toNat (16 : Int)) IntKind.u32.bits)))], [AV.int IntKind.u8 (IntKind.u8.wrap ((IntKind.u32.wrap d).fdiv ((2 : Int) ^ min (Int.toNat (8 : Int)) IntKind.u32.bits)))], [AV.int IntKind.u8 (IntKind.u8.wrap (IntKind.u32.wrap d))]]
noncomputable def vev9_1 (a : Int) (b : Int) (c : Int) (d : Int) : Int := bif vev11_0 a b c d != (0 : Int) then vev11_0 a b c d else (0 : Int)
theorem ev9 (a : Int) (b : Int) (c : Int) (d : Int) : evFin (cfg Try.prog tab 100000 (gk k11 30) noLsp 9 ([] : List Blk).length Try.f9.ntmps) ([] : List Blk).length Try.f9.resultTypes.toList Try.f9 [.agg [.int .i64 a, .int .u8 b, .int .u8 c, .int .i64 d]] [] = some (true, AV.tup [AV.sl Tk.imm [Kd.int IntKind.u8] (vev9_0 a b c d), AV.int IntKind.i64 (vev9_1 a b c d)], []) := by
  have h : evFin (cfg Try.prog tab 100000 (gk k11 30) noLsp 9 ([] : List Blk).length Try.f9.ntmps) ([] : List Blk).length Try.f9.resultTypes.toList Try.f9 [.agg [.int .i64 a, .int .u8 b, .int .u8 c, .int .i64 d]] [] = bif vev11_0 a b c d != (0 : Int) then some (true, AV.tup [AV.sl Tk.imm [Kd.int IntKind.u8] [], AV.int IntKind.i64 (vev11_0 a b c d)], []) else some (true, AV.tup [AV.sl Tk.imm [Kd.int IntKind.u8] [[AV.int IntKind.u8 (IntKind.u8.wrap ((IntKind.u32.wrap a).fdiv ((2 : Int) ^ min (Int.toNat (16 : Int)) IntKind.u32.bits)))], [AV.int IntKind.u8 (IntKind.u8.wrap ((IntKind.u32.wrap a).fdiv ((2 : Int) ^ min (Int.toNat (8 : Int)) IntKind.u32.bits)))], [AV.int IntKind.u8 (IntKind.u8.wrap (IntKind.u32.wrap a))], [AV.int IntKind.u8 b], [AV.int IntKind.u8 c], [AV.int IntKind.u8 (IntKind.u8.wrap ((IntKind.u32.wrap d).fdiv ((2 : Int) ^ min (Int.toNat (24 : Int)) IntKind.u32.bits)))], [AV.int IntKind.u8 (IntKind.u8.wrap ((IntKind.u32.wrap d).fdiv ((2 : Int) ^ min (Int.toNat (16 : Int)) IntKind.u32.bits)))], [AV.int IntKind.u8 (IntKind.u8.wrap ((IntKind.u32.wrap d).fdiv ((2 : Int) ^ min (Int.toNat (8 : Int)) IntKind.u32.bits)))], [AV.int IntKind.u8 (IntKind.u8.wrap (IntKind.u32.wrap d))]], AV.int IntKind.i64 (0 : Int)], []) := by kernel_rfl
  rw [h]
  clear h
  unfold vev9_0 vev9_1
  generalize (vev11_0 a b c d != (0 : Int)) = c0
  cases c0
  · skip
    rfl
  · skip
    rfl
-- spec true ;; (true, AV.tup [AV.sl Tk.imm [Kd.int IntKind.u8] (vev9_0 a b c d), AV.int IntKind.i64 (vev9_1 a b c d)], [])
noncomputable def sp9 : List AV → List Blk → Option (Bool × AV × List Blk)
  | [.agg [.int .i64 a, .int .u8 b, .int .u8 c, .int .i64 d]], [] => spW (true) (some ((true, AV.tup [AV.sl Tk.imm [Kd.int IntKind.u8] (vev9_0 a b c d), AV.int IntKind.i64 (vev9_1 a b c d)], [])))
  | _, _ => none
noncomputable def k9 : Gam := fun f T C => match Nat.beq f 9 with
  | true => (sp9 T C).or (k11 f T C)
  | false => k11 f T C
theorem k9_ok : GamOK Try.prog k9 := by
  intro f T C r outs h
  unfold k9 at h
  cases hf : Nat.beq f 9 with
  | false => rw [hf] at h; exact k11_ok f T C r outs h
  | true =>
    have hf' := Nat.eq_of_beq_eq_true hf
    subst hf'
    rw [hf] at h
    dsimp only at h
    cases hs : sp9 T C with
    | none => rw [hs] at h; exact k11_ok _ T C r outs h
    | some x =>
      rw [hs] at h
      have hx : x = (true, r, outs) := by simpa using h
      subst hx
      unfold sp9 at hs
      split at hs
      · rename_i a b c d
        obtain ⟨hb, rfl, rfl⟩ := spT_inv hs
        have he := ev9 a b c d
        obtain ⟨r0, o0, h0, he⟩ := evFin_inv he
        obtain ⟨h1, h2⟩ := fn_ok mixed plain (gk_ok k11_ok 30) Try.func9 (fun c _ => LoopsOK.none (fun _ _ => rfl) c) h0
        exact ⟨h1, h2.fin he⟩
      · cases hs
noncomputable def rn8_7_0 (t0 : List (List AV)) (t1 : Int) (t2 : Int) (t10 : Int) (b10_0 : Int) (b10_1 : List UInt8) (b10_2 : Bool) : List UInt8 := strOf ((t0.getD t10.toNat []).getD ((0 : Nat) + (1 : Nat) + (1 : Nat) + (1 : Nat) + (1 : Nat)) AV.junk)
noncomputable def rn8_7_1 (t0 : List (List AV)) (t1 : Int) (t2 : Int) (t10 : Int) (b10_0 : Int) (b10_1 : List UInt8) (b10_2 : Bool) : Int := (↑(rn8_7_0 t0 t1 t2 t10 b10_0 b10_1 b10_2).length : Int)
noncomputable def rn8_7_2 (t0 : List (List AV)) (t1 : Int) (t2 : Int) (t10 : Int) (b10_0 : Int) (b10_1 : List UInt8) (b10_2 : Bool) : Int := intOf ((t0.getD t10.toNat []).getD ((0 : Nat) + (1 : Nat)) AV.junk)
noncomputable def rn8_7_3 (t0 : List (List AV)) (t1 : Int) (t2 : Int) (t10 : Int) (b10_0 : Int) (b10_1 : List UInt8) (b10_2 : Bool) : Int := intOf ((t0.getD t10.toNat []).getD ((0 : Nat) + (1 : Nat) + (1 : Nat)) AV.junk)
noncomputable def rn8_7_4 (t0 : List (List AV)) (t1 : Int) (t2 : Int) (t10 : Int) (b10_0 : Int) (b10_1 : List UInt8) (b10_2 : Bool) : Int := intOf ((t0.getD t10.toNat []).getD ((0 : Nat) + (1 : Nat) + (1 : Nat) + (1 : Nat)) AV.junk)
noncomputable def rn8_7_5 (t0 : List (List AV)) (t1 : Int) (t2 : Int) (t10 : Int) (b10_0 : Int) (b10_1 : List UInt8) (b10_2 : Bool) : List (List AV) := vev9_0 (rn8_7_1 t0 t1 t2 t10 b10_0 b10_1 b10_2) (rn8_7_2 t0 t1 t2 t10 b10_0 b10_1 b10_2) (rn8_7_3 t0 t1 t2 t10 b10_0 b10_1 b10_2) (rn8_7_4 t0 t1 t2 t10 b10_0 b10_1 b10_2)
noncomputable def rn8_7_6 (t0 : List (List AV)) (t1 : Int) (t2 : Int) (t10 : Int) (b10_0 : Int) (b10_1 : List UInt8) (b10_2 : Bool) : List (List AV) := vev19_3 b10_0 b10_1 b10_2 (rn8_7_5 t0 t1 t2 t10 b10_0 b10_1 b10_2)
noncomputable def rn8_7_7 (t0 : List (List AV)) (t1 : Int) (t2 : Int) (t10 : Int) (b10_0 : Int) (b10_1 : List UInt8) (b10_2 : Bool) : Int := vev19_0 b10_0 b10_1 b10_2 (rn8_7_5 t0 t1 t2 t10 b10_0 b10_1 b10_2)
noncomputable def rn8_7_8 (t0 : List (List AV)) (t1 : Int) (t2 : Int) (t10 : Int) (b10_0 : Int) (b10_1 : List UInt8) (b10_2 : Bool) : List UInt8 := vev19_1 b10_0 b10_1 b10_2 (rn8_7_5 t0 t1 t2 t10 b10_0 b10_1 b10_2)
noncomputable def rn8_7_9 (t0 : List (List AV)) (t1 : Int) (t2 : Int) (t10 : Int) (b10_0 : Int) (b10_1 : List UInt8) (b10_2 : Bool) : List (List AV) := List.map ofB (rn8_7_0 t0 t1 t2 t10 b10_0 b10_1 b10_2)
noncomputable def rn8_7_10 (t0 : List (List AV)) (t1 : Int) (t2 : Int) (t10 : Int) (b10_0 : Int) (b10_1 : List UInt8) (b10_2 : Bool) : List (List AV) := [] ++ rn8_7_6 t0 t1 t2 t10 b10_0 b10_1 b10_2
noncomputable def rn8_7_11 (t0 : List (List AV)) (t1 : Int) (t2 : Int) (t10 : Int) (b10_0 : Int) (b10_1 : List UInt8) (b10_2 : Bool) : List (List AV) := vev19_3 (rn8_7_7 t0 t1 t2 t10 b10_0 b10_1 b10_2) (rn8_7_8 t0 t1 t2 t10 b10_0 b10_1 b10_2) (vev19_2 b10_0 b10_1 b10_2 (rn8_7_5 t0 t1 t2 t10 b10_0 b10_1 b10_2)) (rn8_7_9 t0 t1 t2 t10 b10_0 b10_1 b10_2)
noncomputable def rn8_7_12 (t0 : List (List AV)) (t1 : Int) (t2 : Int) (t10 : Int) (b10_0 : Int) (b10_1 : List UInt8) (b10_2 : Bool) : List (List AV) := rn8_7_10 t0 t1 t2 t10 b10_0 b10_1 b10_2 ++ rn8_7_11 t0 t1 t2 t10 b10_0 b10_1 b10_2
noncomputable def rn8_7_13 (t0 : List (List AV)) (t1 : Int) (t2 : Int) (t10 : Int) (b10_0 : Int) (b10_1 : List UInt8) (b10_2 : Bool) : Int := (↑(rn8_7_12 t0 t1 t2 t10 b10_0 b10_1 b10_2).length : Int)
noncomputable def go8_7 (t0 : List (List AV)) (t1 : Int) (t2 : Int) (t10 : Int) (b10_0 : Int) (b10_1 : List UInt8) (b10_2 : Bool) : Bool := bif decide (t10 < (↑t0.length : Int)) then bif decide ((0 : Int) ≤ t10) && decide (t10 < (↑t0.length : Int)) then bif decide (rn8_7_1 t0 t1 t2 t10 b10_0 b10_1 b10_2 > (60 : Int)) then false else bif vev9_1 (rn8_7_1 t0 t1 t2 t10 b10_0 b10_1 b10_2) (rn8_7_2 t0 t1 t2 t10 b10_0 b10_1 b10_2) (rn8_7_3 t0 t1 t2 t10 b10_0 b10_1 b10_2) (rn8_7_4 t0 t1 t2 t10 b10_0 b10_1 b10_2) != (0 : Int) then false else bif vev19_5 b10_0 b10_1 b10_2 (rn8_7_5 t0 t1 t2 t10 b10_0 b10_1 b10_2) then bif decide (rn8_7_1 t0 t1 t2 t10 b10_0 b10_1 b10_2 > (0 : Int)) then bif (↑(rn8_7_6 t0 t1 t2 t10 b10_0 b10_1 b10_2).length : Int) != (0 : Int) then false else bif vev25_1 (rn8_7_7 t0 t1 t2 t10 b10_0 b10_1 b10_2) (rn8_7_8 t0 t1 t2 t10 b10_0 b10_1 b10_2) (vev19_2 b10_0 b10_1 b10_2 (rn8_7_5 t0 t1 t2 t10 b10_0 b10_1 b10_2)) then bif vev25_0 (rn8_7_7 t0 t1 t2 t10 b10_0 b10_1 b10_2) (rn8_7_8 t0 t1 t2 t10 b10_0 b10_1 b10_2) (vev19_2 b10_0 b10_1 b10_2 (rn8_7_5 t0 t1 t2 t10 b10_0 b10_1 b10_2)) != rn8_7_1 t0 t1 t2 t10 b10_0 b10_1 b10_2 then false else bif vev19_4 b10_0 b10_1 b10_2 (rn8_7_5 t0 t1 t2 t10 b10_0 b10_1 b10_2) != (0 : Int) then false else bif vev25_1 b10_0 b10_1 b10_2 then bif vev25_0 b10_0 b10_1 b10_2 != (9 : Int) then false else bif decide ((rn8_7_0 t0 t1 t2 t10 b10_0 b10_1 b10_2).length ≤ (4611686018427387904 : Nat)) then bif vev19_5 (rn8_7_7 t0 t1 t2 t10 b10_0 b10_1 b10_2) (rn8_7_8 t0 t1 t2 t10 b10_0 b10_1 b10_2) (vev19_2 b10_0 b10_1 b10_2 (rn8_7_5 t0 t1 t2 t10 b10_0 b10_1 b10_2)) (rn8_7_9 t0 t1 t2 t10 b10_0 b10_1 b10_2) then bif bif decide (((0 : Nat) + (rn8_7_6 t0 t1 t2 t10 b10_0 b10_1 b10_2).length) * (40 : Nat) ≤ (140737488355328 : Nat)) then decide ((0 : Nat) + (rn8_7_6 t0 t1 t2 t10 b10_0 b10_1 b10_2).length ≤ (9223372036854775807 : Nat)) else false then bif bif decide (((rn8_7_10 t0 t1 t2 t10 b10_0 b10_1 b10_2).length + (rn8_7_11 t0 t1 t2 t10 b10_0 b10_1 b10_2).length) * (40 : Nat) ≤ (140737488355328 : Nat)) then decide ((rn8_7_10 t0 t1 t2 t10 b10_0 b10_1 b10_2).length + (rn8_7_11 t0 t1 t2 t10 b10_0 b10_1 b10_2).length ≤ (9223372036854775807 : Nat)) else false then bif bif vev19_4 (rn8_7_7 t0 t1 t2 t10 b10_0 b10_1 b10_2) (rn8_7_8 t0 t1 t2 t10 b10_0 b10_1 b10_2) (vev19_2 b10_0 b10_1 b10_2 (rn8_7_5 t0 t1 t2 t10 b10_0 b10_1 b10_2)) (rn8_7_9 t0 t1 t2 t10 b10_0 b10_1 b10_2) != (0 : Int) then true else bif rn8_7_13 t0 t1 t2 t10 b10_0 b10_1 b10_2 != (1 : Int) then true else bif decide ((0 : Int) ≤ (0 : Int)) && decide ((0 : Int) < rn8_7_13 t0 t1 t2 t10 b10_0 b10_1 b10_2) then bif !(intOf (((rn8_7_12 t0 t1 t2 t10 b10_0 b10_1 b10_2).getD (Int.toNat (0 : Int)) []).getD (0 : Nat) AV.junk) == rn8_7_1 t0 t1 t2 t10 b10_0 b10_1 b10_2 && (intOf (((rn8_7_12 t0 t1 t2 t10 b10_0 b10_1 b10_2).getD (Int.toNat (0 : Int)) []).getD ((0 : Nat) + (1 : Nat)) AV.junk) == rn8_7_2 t0 t1 t2 t10 b10_0 b10_1 b10_2 && (intOf (((rn8_7_12 t0 t1 t2 t10 b10_0 b10_1 b10_2).getD (Int.toNat (0 : Int)) []).getD ((0 : Nat) + (1 : Nat) + (1 : Nat)) AV.junk) == rn8_7_3 t0 t1 t2 t10 b10_0 b10_1 b10_2 && (intOf (((rn8_7_12 t0 t1 t2 t10 b10_0 b10_1 b10_2).getD (Int.toNat (0 : Int)) []).getD ((0 : Nat) + (1 : Nat) + (1 : Nat) + (1 : Nat)) AV.junk) == rn8_7_4 t0 t1 t2 t10 b10_0 b10_1 b10_2 && true)))) then true else bif decide ((0 : Int) ≤ (0 : Int)) && decide ((0 : Int) < rn8_7_13 t0 t1 t2 t10 b10_0 b10_1 b10_2) then decide ((0 : Int) ≤ t10) && decide (t10 < (↑t0.length : Int)) else false else false then bif bif vev19_4 (rn8_7_7 t0 t1 t2 t10 b10_0 b10_1 b10_2) (rn8_7_8 t0 t1 t2 t10 b10_0 b10_1 b10_2) (vev19_2 b10_0 b10_1 b10_2 (rn8_7_5 t0 t1 t2 t10 b10_0 b10_1 b10_2)) (rn8_7_9 t0 t1 t2 t10 b10_0 b10_1 b10_2) != (0 : Int) then true else bif rn8_7_13 t0 t1 t2 t10 b10_0 b10_1 b10_2 != (1 : Int) then true else bif decide ((0 : Int) ≤ (0 : Int)) && decide ((0 : Int) < rn8_7_13 t0 t1 t2 t10 b10_0 b10_1 b10_2) then bif !(intOf (((rn8_7_12 t0 t1 t2 t10 b10_0 b10_1 b10_2).getD (Int.toNat (0 : Int)) []).getD (0 : Nat) AV.junk) == rn8_7_1 t0 t1 t2 t10 b10_0 b10_1 b10_2 && (intOf (((rn8_7_12 t0 t1 t2 t10 b10_0 b10_1 b10_2).getD (Int.toNat (0 : Int)) []).getD ((0 : Nat) + (1 : Nat)) AV.junk) == rn8_7_2 t0 t1 t2 t10 b10_0 b10_1 b10_2 && (intOf (((rn8_7_12 t0 t1 t2 t10 b10_0 b10_1 b10_2).getD (Int.toNat (0 : Int)) []).getD ((0 : Nat) + (1 : Nat) + (1 : Nat)) AV.junk) == rn8_7_3 t0 t1 t2 t10 b10_0 b10_1 b10_2 && (intOf (((rn8_7_12 t0 t1 t2 t10 b10_0 b10_1 b10_2).getD (Int.toNat (0 : Int)) []).getD ((0 : Nat) + (1 : Nat) + (1 : Nat) + (1 : Nat)) AV.junk) == rn8_7_4 t0 t1 t2 t10 b10_0 b10_1 b10_2 && true)))) then true else bif decide ((0 : Int) ≤ (0 : Int)) && decide ((0 : Int) < rn8_7_13 t0 t1 t2 t10 b10_0 b10_1 b10_2) then bif decide ((0 : Int) ≤ t10) && decide (t10 < (↑t0.length : Int)) then !strOf (((rn8_7_12 t0 t1 t2 t10 b10_0 b10_1 b10_2).getD (Int.toNat (0 : Int)) []).getD ((0 : Nat) + (1 : Nat) + (1 : Nat) + (1 : Nat) + (1 : Nat)) AV.junk) == rn8_7_0 t0 t1 t2 t10 b10_0 b10_1 b10_2 else false else false else false then false else true else false else false else false else false else false else false else false else bif vev19_4 b10_0 b10_1 b10_2 (rn8_7_5 t0 t1 t2 t10 b10_0 b10_1 b10_2) != (0 : Int) then false else bif vev25_1 b10_0 b10_1 b10_2 then bif vev25_0 b10_0 b10_1 b10_2 != (9 : Int) then false else bif decide ((rn8_7_0 t0 t1 t2 t10 b10_0 b10_1 b10_2).length ≤ (4611686018427387904 : Nat)) then bif vev19_5 (rn8_7_7 t0 t1 t2 t10 b10_0 b10_1 b10_2) (rn8_7_8 t0 t1 t2 t10 b10_0 b10_1 b10_2) (vev19_2 b10_0 b10_1 b10_2 (rn8_7_5 t0 t1 t2 t10 b10_0 b10_1 b10_2)) (rn8_7_9 t0 t1 t2 t10 b10_0 b10_1 b10_2) then bif bif decide (((0 : Nat) + (rn8_7_6 t0 t1 t2 t10 b10_0 b10_1 b10_2).length) * (40 : Nat) ≤ (140737488355328 : Nat)) then decide ((0 : Nat) + (rn8_7_6 t0 t1 t2 t10 b10_0 b10_1 b10_2).length ≤ (9223372036854775807 : Nat)) else false then bif bif decide (((rn8_7_10 t0 t1 t2 t10 b10_0 b10_1 b10_2).length + (rn8_7_11 t0 t1 t2 t10 b10_0 b10_1 b10_2).length) * (40 : Nat) ≤ (140737488355328 : Nat)) then decide ((rn8_7_10 t0 t1 t2 t10 b10_0 b10_1 b10_2).length + (rn8_7_11 t0 t1 t2 t10 b10_0 b10_1 b10_2).length ≤ (9223372036854775807 : Nat)) else false then bif bif vev19_4 (rn8_7_7 t0 t1 t2 t10 b10_0 b10_1 b10_2) (rn8_7_8 t0 t1 t2 t10 b10_0 b10_1 b10_2) (vev19_2 b10_0 b10_1 b10_2 (rn8_7_5 t0 t1 t2 t10 b10_0 b10_1 b10_2)) (rn8_7_9 t0 t1 t2 t10 b10_0 b10_1 b10_2) != (0 : Int) then true else bif rn8_7_13 t0 t1 t2 t10 b10_0 b10_1 b10_2 != (1 : Int) then true else bif decide ((0 : Int) ≤ (0 : Int)) && decide ((0 : Int) < rn8_7_13 t0 t1 t2 t10 b10_0 b10_1 b10_2) then bif !(intOf (((rn8_7_12 t0 t1 t2 t10 b10_0 b10_1 b10_2).getD (Int.toNat (0 : Int)) []).getD (0 : Nat) AV.junk) == rn8_7_1 t0 t1 t2 t10 b10_0 b10_1 b10_2 && (intOf (((rn8_7_12 t0 t1 t2 t10 b10_0 b10_1 b10_2).getD (Int.toNat (0 : Int)) []).getD ((0 : Nat) + (1 : Nat)) AV.junk) == rn8_7_2 t0 t1 t2 t10 b10_0 b10_1 b10_2 && (intOf (((rn8_7_12 t0 t1 t2 t10 b10_0 b10_1 b10_2).getD (Int.toNat (0 : Int)) []).getD ((0 : Nat) + (1 : Nat) + (1 : Nat)) AV.junk) == rn8_7_3 t0 t1 t2 t10 b10_0 b10_1 b10_2 && (intOf (((rn8_7_12 t0 t1 t2 t10 b10_0 b10_1 b10_2).getD (Int.toNat (0 : Int)) []).getD ((0 : Nat) + (1 : Nat) + (1 : Nat) + (1 : Nat)) AV.junk) == rn8_7_4 t0 t1 t2 t10 b10_0 b10_1 b10_2 && true)))) then true else bif decide ((0 : Int) ≤ (0 : Int)) && decide ((0 : Int) < rn8_7_13 t0 t1 t2 t10 b10_0 b10_1 b10_2) then decide ((0 : Int) ≤ t10) && decide (t10 < (↑t0.length : Int)) else false else false then bif bif vev19_4 (rn8_7_7 t0 t1 t2 t10 b10_0 b10_1 b10_2) (rn8_7_8 t0 t1 t2 t10 b10_0 b10_1 b10_2) (vev19_2 b10_0 b10_1 b10_2 (rn8_7_5 t0 t1 t2 t10 b10_0 b10_1 b10_2)) (rn8_7_9 t0 t1 t2 t10 b10_0 b10_1 b10_2) != (0 : Int) then true else bif rn8_7_13 t0 t1 t2 t10 b10_0 b10_1 b10_2 != (1 : Int) then true else bif decide ((0 : Int) ≤ (0 : Int)) && decide ((0 : Int) < rn8_7_13 t0 t1 t2 t10 b10_0 b10_1 b10_2) then bif !(intOf (((rn8_7_12 t0 t1 t2 t10 b10_0 b10_1 b10_2).getD (Int.toNat (0 : Int)) []).getD (0 : Nat) AV.junk) == rn8_7_1 t0 t1 t2 t10 b10_0 b10_1 b10_2 && (intOf (((rn8_7_12 t0 t1 t2 t10 b10_0 b10_1 b10_2).getD (Int.toNat (0 : Int)) []).getD ((0 : Nat) + (1 : Nat)) AV.junk) == rn8_7_2 t0 t1 t2 t10 b10_0 b10_1 b10_2 && (intOf (((rn8_7_12 t0 t1 t2 t10 b10_0 b10_1 b10_2).getD (Int.toNat (0 : Int)) []).getD ((0 : Nat) + (1 : Nat) + (1 : Nat)) AV.junk) == rn8_7_3 t0 t1 t2 t10 b10_0 b10_1 b10_2 && (intOf (((rn8_7_12 t0 t1 t2 t10 b10_0 b10_1 b10_2).getD (Int.toNat (0 : Int)) []).getD ((0 : Nat) + (1 : Nat) + (1 : Nat) + (1 : Nat)) AV.junk) == rn8_7_4 t0 t1 t2 t10 b10_0 b10_1 b10_2 && true)))) then true else bif decide ((0 : Int) ≤ (0 : Int)) && decide ((0 : Int) < rn8_7_13 t0 t1 t2 t10 b10_0 b10_1 b10_2) then bif decide ((0 : Int) ≤ t10) && decide (t10 < (↑t0.length : Int)) then !strOf (((rn8_7_12 t0 t1 t2 t10 b10_0 b10_1 b10_2).getD (Int.toNat (0 : Int)) []).getD ((0 : Nat) + (1 : Nat) + (1 : Nat) + (1 : Nat) + (1 : Nat)) AV.junk) == rn8_7_0 t0 t1 t2 t10 b10_0 b10_1 b10_2 else false else false else false then false else true else false else false else false else false else false else false else false else false else false
noncomputable def nx8_7_3 (t0 : List (List AV)) (t1 : Int) (t2 : Int) (t10 : Int) (b10_0 : Int) (b10_1 : List UInt8) (b10_2 : Bool) : Int := IntKind.i64.wrap (t10 + (1 : Int))
noncomputable def nx8_7_4 (t0 : List (List AV)) (t1 : Int) (t2 : Int) (t10 : Int) (b10_0 : Int) (b10_1 : List UInt8) (b10_2 : Bool) : Int := vev19_0 (rn8_7_7 t0 t1 t2 t10 b10_0 b10_1 b10_2) (rn8_7_8 t0 t1 t2 t10 b10_0 b10_1 b10_2) (vev19_2 b10_0 b10_1 b10_2 (rn8_7_5 t0 t1 t2 t10 b10_0 b10_1 b10_2)) (rn8_7_9 t0 t1 t2 t10 b10_0 b10_1 b10_2)
noncomputable def nx8_7_5 (t0 : List (List AV)) (t1 : Int) (t2 : Int) (t10 : Int) (b10_0 : Int) (b10_1 : List UInt8) (b10_2 : Bool) : List UInt8 := vev19_1 (rn8_7_7 t0 t1 t2 t10 b10_0 b10_1 b10_2) (rn8_7_8 t0 t1 t2 t10 b10_0 b10_1 b10_2) (vev19_2 b10_0 b10_1 b10_2 (rn8_7_5 t0 t1 t2 t10 b10_0 b10_1 b10_2)) (rn8_7_9 t0 t1 t2 t10 b10_0 b10_1 b10_2)
noncomputable def nx8_7_6 (t0 : List (List AV)) (t1 : Int) (t2 : Int) (t10 : Int) (b10_0 : Int) (b10_1 : List UInt8) (b10_2 : Bool) : Bool := vev19_2 (rn8_7_7 t0 t1 t2 t10 b10_0 b10_1 b10_2) (rn8_7_8 t0 t1 t2 t10 b10_0 b10_1 b10_2) (vev19_2 b10_0 b10_1 b10_2 (rn8_7_5 t0 t1 t2 t10 b10_0 b10_1 b10_2)) (rn8_7_9 t0 t1 t2 t10 b10_0 b10_1 b10_2)
noncomputable def xc8_7_0 (t0 : List (List AV)) (t1 : Int) (t2 : Int) (t10 : Int) (b10_0 : Int) (b10_1 : List UInt8) (b10_2 : Bool) : Bool := bif decide (t10 < (↑t0.length : Int)) then bif decide ((0 : Int) ≤ t10) && decide (t10 < (↑t0.length : Int)) then bif decide (rn8_7_1 t0 t1 t2 t10 b10_0 b10_1 b10_2 > (60 : Int)) then true else bif vev9_1 (rn8_7_1 t0 t1 t2 t10 b10_0 b10_1 b10_2) (rn8_7_2 t0 t1 t2 t10 b10_0 b10_1 b10_2) (rn8_7_3 t0 t1 t2 t10 b10_0 b10_1 b10_2) (rn8_7_4 t0 t1 t2 t10 b10_0 b10_1 b10_2) != (0 : Int) then true else bif vev19_5 b10_0 b10_1 b10_2 (rn8_7_5 t0 t1 t2 t10 b10_0 b10_1 b10_2) then bif decide (rn8_7_1 t0 t1 t2 t10 b10_0 b10_1 b10_2 > (0 : Int)) then bif (↑(rn8_7_6 t0 t1 t2 t10 b10_0 b10_1 b10_2).length : Int) != (0 : Int) then true else bif vev25_1 (rn8_7_7 t0 t1 t2 t10 b10_0 b10_1 b10_2) (rn8_7_8 t0 t1 t2 t10 b10_0 b10_1 b10_2) (vev19_2 b10_0 b10_1 b10_2 (rn8_7_5 t0 t1 t2 t10 b10_0 b10_1 b10_2)) then bif vev25_0 (rn8_7_7 t0 t1 t2 t10 b10_0 b10_1 b10_2) (rn8_7_8 t0 t1 t2 t10 b10_0 b10_1 b10_2) (vev19_2 b10_0 b10_1 b10_2 (rn8_7_5 t0 t1 t2 t10 b10_0 b10_1 b10_2)) != rn8_7_1 t0 t1 t2 t10 b10_0 b10_1 b10_2 then true else bif vev19_4 b10_0 b10_1 b10_2 (rn8_7_5 t0 t1 t2 t10 b10_0 b10_1 b10_2) != (0 : Int) then true else bif vev25_1 b10_0 b10_1 b10_2 then bif vev25_0 b10_0 b10_1 b10_2 != (9 : Int) then true else bif decide ((rn8_7_0 t0 t1 t2 t10 b10_0 b10_1 b10_2).length ≤ (4611686018427387904 : Nat)) then bif vev19_5 (rn8_7_7 t0 t1 t2 t10 b10_0 b10_1 b10_2) (rn8_7_8 t0 t1 t2 t10 b10_0 b10_1 b10_2) (vev19_2 b10_0 b10_1 b10_2 (rn8_7_5 t0 t1 t2 t10 b10_0 b10_1 b10_2)) (rn8_7_9 t0 t1 t2 t10 b10_0 b10_1 b10_2) then bif bif decide (((0 : Nat) + (rn8_7_6 t0 t1 t2 t10 b10_0 b10_1 b10_2).length) * (40 : Nat) ≤ (140737488355328 : Nat)) then decide ((0 : Nat) + (rn8_7_6 t0 t1 t2 t10 b10_0 b10_1 b10_2).length ≤ (9223372036854775807 : Nat)) else false then bif bif decide (((rn8_7_10 t0 t1 t2 t10 b10_0 b10_1 b10_2).length + (rn8_7_11 t0 t1 t2 t10 b10_0 b10_1 b10_2).length) * (40 : Nat) ≤ (140737488355328 : Nat)) then decide ((rn8_7_10 t0 t1 t2 t10 b10_0 b10_1 b10_2).length + (rn8_7_11 t0 t1 t2 t10 b10_0 b10_1 b10_2).length ≤ (9223372036854775807 : Nat)) else false then bif bif vev19_4 (rn8_7_7 t0 t1 t2 t10 b10_0 b10_1 b10_2) (rn8_7_8 t0 t1 t2 t10 b10_0 b10_1 b10_2) (vev19_2 b10_0 b10_1 b10_2 (rn8_7_5 t0 t1 t2 t10 b10_0 b10_1 b10_2)) (rn8_7_9 t0 t1 t2 t10 b10_0 b10_1 b10_2) != (0 : Int) then true else bif rn8_7_13 t0 t1 t2 t10 b10_0 b10_1 b10_2 != (1 : Int) then true else bif decide ((0 : Int) ≤ (0 : Int)) && decide ((0 : Int) < rn8_7_13 t0 t1 t2 t10 b10_0 b10_1 b10_2) then bif !(intOf (((rn8_7_12 t0 t1 t2 t10 b10_0 b10_1 b10_2).getD (Int.toNat (0 : Int)) []).getD (0 : Nat) AV.junk) == rn8_7_1 t0 t1 t2 t10 b10_0 b10_1 b10_2 && (intOf (((rn8_7_12 t0 t1 t2 t10 b10_0 b10_1 b10_2).getD (Int.toNat (0 : Int)) []).getD ((0 : Nat) + (1 : Nat)) AV.junk) == rn8_7_2 t0 t1 t2 t10 b10_0 b10_1 b10_2 && (intOf (((rn8_7_12 t0 t1 t2 t10 b10_0 b10_1 b10_2).getD (Int.toNat (0 : Int)) []).getD ((0 : Nat) + (1 : Nat) + (1 : Nat)) AV.junk) == rn8_7_3 t0 t1 t2 t10 b10_0 b10_1 b10_2 && (intOf (((rn8_7_12 t0 t1 t2 t10 b10_0 b10_1 b10_2).getD (Int.toNat (0 : Int)) []).getD ((0 : Nat) + (1 : Nat) + (1 : Nat) + (1 : Nat)) AV.junk) == rn8_7_4 t0 t1 t2 t10 b10_0 b10_1 b10_2 && true)))) then true else bif decide ((0 : Int) ≤ (0 : Int)) && decide ((0 : Int) < rn8_7_13 t0 t1 t2 t10 b10_0 b10_1 b10_2) then decide ((0 : Int) ≤ t10) && decide (t10 < (↑t0.length : Int)) else false else false then bif vev19_4 (rn8_7_7 t0 t1 t2 t10 b10_0 b10_1 b10_2) (rn8_7_8 t0 t1 t2 t10 b10_0 b10_1 b10_2) (vev19_2 b10_0 b10_1 b10_2 (rn8_7_5 t0 t1 t2 t10 b10_0 b10_1 b10_2)) (rn8_7_9 t0 t1 t2 t10 b10_0 b10_1 b10_2) != (0 : Int) then true else bif rn8_7_13 t0 t1 t2 t10 b10_0 b10_1 b10_2 != (1 : Int) then true else bif decide ((0 : Int) ≤ (0 : Int)) && decide ((0 : Int) < rn8_7_13 t0 t1 t2 t10 b10_0 b10_1 b10_2) then bif !(intOf (((rn8_7_12 t0 t1 t2 t10 b10_0 b10_1 b10_2).getD (Int.toNat (0 : Int)) []).getD (0 : Nat) AV.junk) == rn8_7_1 t0 t1 t2 t10 b10_0 b10_1 b10_2 && (intOf (((rn8_7_12 t0 t1 t2 t10 b10_0 b10_1 b10_2).getD (Int.toNat (0 : Int)) []).getD ((0 : Nat) + (1 : Nat)) AV.junk) == rn8_7_2 t0 t1 t2 t10 b10_0 b10_1 b10_2 && (intOf (((rn8_7_12 t0 t1 t2 t10 b10_0 b10_1 b10_2).getD (Int.toNat (0 : Int)) []).getD ((0 : Nat) + (1 : Nat) + (1 : Nat)) AV.junk) == rn8_7_3 t0 t1 t2 t10 b10_0 b10_1 b10_2 && (intOf (((rn8_7_12 t0 t1 t2 t10 b10_0 b10_1 b10_2).getD (Int.toNat (0 : Int)) []).getD ((0 : Nat) + (1 : Nat) + (1 : Nat) + (1 : Nat)) AV.junk) == rn8_7_4 t0 t1 t2 t10 b10_0 b10_1 b10_2 && true)))) then true else bif decide ((0 : Int) ≤ (0 : Int)) && decide ((0 : Int) < rn8_7_13 t0 t1 t2 t10 b10_0 b10_1 b10_2) then bif decide ((0 : Int) ≤ t10) && decide (t10 < (↑t0.length : Int)) then !strOf (((rn8_7_12 t0 t1 t2 t10 b10_0 b10_1 b10_2).getD (Int.toNat (0 : Int)) []).getD ((0 : Nat) + (1 : Nat) + (1 : Nat) + (1 : Nat) + (1 : Nat)) AV.junk) == rn8_7_0 t0 t1 t2 t10 b10_0 b10_1 b10_2 else false else false else false else false else false else false else false else false else false else false else bif vev19_4 b10_0 b10_1 b10_2 (rn8_7_5 t0 t1 t2 t10 b10_0 b10_1 b10_2) != (0 : Int) then true else bif vev25_1 b10_0 b10_1 b10_2 then bif vev25_0 b10_0 b10_1 b10_2 != (9 : Int) then true else bif decide ((rn8_7_0 t0 t1 t2 t10 b10_0 b10_1 b10_2).length ≤ (4611686018427387904 : Nat)) then bif vev19_5 (rn8_7_7 t0 t1 t2 t10 b10_0 b10_1 b10_2) (rn8_7_8 t0 t1 t2 t10 b10_0 b10_1 b10_2) (vev19_2 b10_0 b10_1 b10_2 (rn8_7_5 t0 t1 t2 t10 b10_0 b10_1 b10_2)) (rn8_7_9 t0 t1 t2 t10 b10_0 b10_1 b10_2) then bif bif decide (((0 : Nat) + (rn8_7_6 t0 t1 t2 t10 b10_0 b10_1 b10_2).length) * (40 : Nat) ≤ (140737488355328 : Nat)) then decide ((0 : Nat) + (rn8_7_6 t0 t1 t2 t10 b10_0 b10_1 b10_2).length ≤ (9223372036854775807 : Nat)) else false then bif bif decide (((rn8_7_10 t0 t1 t2 t10 b10_0 b10_1 b10_2).length + (rn8_7_11 t0 t1 t2 t10 b10_0 b10_1 b10_2).length) * (40 : Nat) ≤ (140737488355328 : Nat)) then decide ((rn8_7_10 t0 t1 t2 t10 b10_0 b10_1 b10_2).length + (rn8_7_11 t0 t1 t2 t10 b10_0 b10_1 b10_2).length ≤ (9223372036854775807 : Nat)) else false then bif bif vev19_4 (rn8_7_7 t0 t1 t2 t10 b10_0 b10_1 b10_2) (rn8_7_8 t0 t1 t2 t10 b10_0 b10_1 b10_2) (vev19_2 b10_0 b10_1 b10_2 (rn8_7_5 t0 t1 t2 t10 b10_0 b10_1 b10_2)) (rn8_7_9 t0 t1 t2 t10 b10_0 b10_1 b10_2) != (0 : Int) then true else bif rn8_7_13 t0 t1 t2 t10 b10_0 b10_1 b10_2 != (1 : Int) then true else bif decide ((0 : Int) ≤ (0 : Int)) && decide ((0 : Int) < rn8_7_13 t0 t1 t2 t10 b10_0 b10_1 b10_2) then bif !(intOf (((rn8_7_12 t0 t1 t2 t10 b10_0 b10_1 b10_2).getD (Int.toNat (0 : Int)) []).getD (0 : Nat) AV.junk) == rn8_7_1 t0 t1 t2 t10 b10_0 b10_1 b10_2 && (intOf (((rn8_7_12 t0 t1 t2 t10 b10_0 b10_1 b10_2).getD (Int.toNat (0 : Int)) []).getD ((0 : Nat) + (1 : Nat)) AV.junk) == rn8_7_2 t0 t1 t2 t10 b10_0 b10_1 b10_2 && (intOf (((rn8_7_12 t0 t1 t2 t10 b10_0 b10_1 b10_2).getD (Int.toNat (0 : Int)) []).getD ((0 : Nat) + (1 : Nat) + (1 : Nat)) AV.junk) == rn8_7_3 t0 t1 t2 t10 b10_0 b10_1 b10_2 && (intOf (((rn8_7_12 t0 t1 t2 t10 b10_0 b10_1 b10_2).getD (Int.toNat (0 : Int)) []).getD ((0 : Nat) + (1 : Nat) + (1 : Nat) + (1 : Nat)) AV.junk) == rn8_7_4 t0 t1 t2 t10 b10_0 b10_1 b10_2 && true)))) then true else bif decide ((0 : Int) ≤ (0 : Int)) && decide ((0 : Int) < rn8_7_13 t0 t1 t2 t10 b10_0 b10_1 b10_2) then decide ((0 : Int) ≤ t10) && decide (t10 < (↑t0.length : Int)) else false else false then bif vev19_4 (rn8_7_7 t0 t1 t2 t10 b10_0 b10_1 b10_2) (rn8_7_8 t0 t1 t2 t10 b10_0 b10_1 b10_2) (vev19_2 b10_0 b10_1 b10_2 (rn8_7_5 t0 t1 t2 t10 b10_0 b10_1 b10_2)) (rn8_7_9 t0 t1 t2 t10 b10_0 b10_1 b10_2) != (0 : Int) then true else bif rn8_7_13 t0 t1 t2 t10 b10_0 b10_1 b10_2 != (1 : Int) then true else bif decide ((0 : Int) ≤ (0 : Int)) && decide ((0 : Int) < rn8_7_13 t0 t1 t2 t10 b10_0 b10_1 b10_2) then bif !(intOf (((rn8_7_12 t0 t1 t2 t10 b10_0 b10_1 b10_2).getD (Int.toNat (0 : Int)) []).getD (0 : Nat) AV.junk) == rn8_7_1 t0 t1 t2 t10 b10_0 b10_1 b10_2 && (intOf (((rn8_7_12 t0 t1 t2 t10 b10_0 b10_1 b10_2).getD (Int.toNat (0 : Int)) []).getD ((0 : Nat) + (1 : Nat)) AV.junk) == rn8_7_2 t0 t1 t2 t10 b10_0 b10_1 b10_2 && (intOf (((rn8_7_12 t0 t1 t2 t10 b10_0 b10_1 b10_2).getD (Int.toNat (0 : Int)) []).getD ((0 : Nat) + (1 : Nat) + (1 : Nat)) AV.junk) == rn8_7_3 t0 t1 t2 t10 b10_0 b10_1 b10_2 && (intOf (((rn8_7_12 t0 t1 t2 t10 b10_0 b10_1 b10_2).getD (Int.toNat (0 : Int)) []).getD ((0 : Nat) + (1 : Nat) + (1 : Nat) + (1 : Nat)) AV.junk) == rn8_7_4 t0 t1 t2 t10 b10_0 b10_1 b10_2 && true)))) then true else bif decide ((0 : Int) ≤ (0 : Int)) && decide ((0 : Int) < rn8_7_13 t0 t1 t2 t10 b10_0 b10_1 b10_2) then bif decide ((0 : Int) ≤ t10) && decide (t10 < (↑t0.length : Int)) then !strOf (((rn8_7_12 t0 t1 t2 t10 b10_0 b10_1 b10_2).getD (Int.toNat (0 : Int)) []).getD ((0 : Nat) + (1 : Nat) + (1 : Nat) + (1 : Nat) + (1 : Nat)) AV.junk) == rn8_7_0 t0 t1 t2 t10 b10_0 b10_1 b10_2 else false else false else false else false else false else false else false else false else false else false else false else false
noncomputable def xv8_7_0_0 (t0 : List (List AV)) (t1 : Int) (t2 : Int) (t10 : Int) (b10_0 : Int) (b10_1 : List UInt8) (b10_2 : Bool) : Bool := bif decide (rn8_7_1 t0 t1 t2 t10 b10_0 b10_1 b10_2 > (60 : Int)) then true else bif vev9_1 (rn8_7_1 t0 t1 t2 t10 b10_0 b10_1 b10_2) (rn8_7_2 t0 t1 t2 t10 b10_0 b10_1 b10_2) (rn8_7_3 t0 t1 t2 t10 b10_0 b10_1 b10_2) (rn8_7_4 t0 t1 t2 t10 b10_0 b10_1 b10_2) != (0 : Int) then bif (↑(rn8_7_5 t0 t1 t2 t10 b10_0 b10_1 b10_2).length : Int) == (0 : Int) then bif true then true else false else false else false
noncomputable def xc8_7_1 (t0 : List (List AV)) (t1 : Int) (t2 : Int) (t10 : Int) (b10_0 : Int) (b10_1 : List UInt8) (b10_2 : Bool) : Bool := bif decide (t10 < (↑t0.length : Int)) then false else true
theorem rd8_7 (rest : Lsp) (t0 : List (List AV)) (t1 : Int) (t2 : Int) (t10 : Int) (b10_0 : Int) (b10_1 : List UInt8) (b10_2 : Bool) : roundV (cfg Try.prog tab 100000 (gk k9 30) rest 8 0 Try.f8.ntmps) (loopAt Try.f8 7) [0, 1, 2, 7, 10] [7, 10] [1, 2, 6] [] [AV.sl Tk.imm [Kd.int IntKind.i64, Kd.int IntKind.u8, Kd.int IntKind.u8, Kd.int IntKind.i64, Kd.str] t0, AV.int IntKind.u8 t1, AV.int IntKind.u8 t2, AV.hp (nat_lit 10) (nat_lit 0), AV.int IntKind.i64 t10] [Blk.dead, Blk.var [AV.int IntKind.i64 b10_0, AV.str b10_1, AV.bool b10_2]] = bif go8_7 t0 t1 t2 t10 b10_0 b10_1 b10_2 then some (Ex.norm, [AV.sl Tk.imm [Kd.int IntKind.i64, Kd.int IntKind.u8, Kd.int IntKind.u8, Kd.int IntKind.i64, Kd.str] t0, AV.int IntKind.u8 t1, AV.int IntKind.u8 t2, AV.hp (nat_lit 10) (nat_lit 0), AV.int IntKind.i64 (nx8_7_3 t0 t1 t2 t10 b10_0 b10_1 b10_2)], [Blk.dead, Blk.var [AV.int IntKind.i64 (nx8_7_4 t0 t1 t2 t10 b10_0 b10_1 b10_2), AV.str (nx8_7_5 t0 t1 t2 t10 b10_0 b10_1 b10_2), AV.bool (nx8_7_6 t0 t1 t2 t10 b10_0 b10_1 b10_2)]]) else bif xc8_7_0 t0 t1 t2 t10 b10_0 b10_1 b10_2 then some (Ex.ret, [AV.int IntKind.u8 t1, AV.int IntKind.u8 t2, AV.bool (xv8_7_0_0 t0 t1 t2 t10 b10_0 b10_1 b10_2)], []) else bif xc8_7_1 t0 t1 t2 t10 b10_0 b10_1 b10_2 then some (Ex.exit (nat_lit 0), [AV.int IntKind.u8 t1, AV.int IntKind.u8 t2, AV.junk], []) else none := by
  have h : roundV (cfg Try.prog tab 100000 (gk k9 30) rest 8 0 Try.f8.ntmps) (loopAt Try.f8 7) [0, 1, 2, 7, 10] [7, 10] [1, 2, 6] [] [AV.sl Tk.imm [Kd.int IntKind.i64, Kd.int IntKind.u8, Kd.int IntKind.u8, Kd.int IntKind.i64, Kd.str] t0, AV.int IntKind.u8 t1, AV.int IntKind.u8 t2, AV.hp (nat_lit 10) (nat_lit 0), AV.int IntKind.i64 t10] [Blk.dead, Blk.var [AV.int IntKind.i64 b10_0, AV.str b10_1, AV.bool b10_2]] = bif decide (t10 < (↑t0.length : Int)) then bif decide ((0 : Int) ≤ t10) && decide (t10 < (↑t0.length : Int)) then bif decide (rn8_7_1 t0 t1 t2 t10 b10_0 b10_1 b10_2 > (60 : Int)) then some (Ex.ret, [AV.int IntKind.u8 t1, AV.int IntKind.u8 t2, AV.bool true], []) else bif decide ((0 : Int) ≤ t10) && decide (t10 < (↑t0.length : Int)) then bif decide ((0 : Int) ≤ t10) && decide (t10 < (↑t0.length : Int)) then bif decide ((0 : Int) ≤ t10) && decide (t10 < (↑t0.length : Int)) then bif decide ((0 : Int) ≤ t10) && decide (t10 < (↑t0.length : Int)) then bif vev9_1 (rn8_7_1 t0 t1 t2 t10 b10_0 b10_1 b10_2) (rn8_7_2 t0 t1 t2 t10 b10_0 b10_1 b10_2) (rn8_7_3 t0 t1 t2 t10 b10_0 b10_1 b10_2) (rn8_7_4 t0 t1 t2 t10 b10_0 b10_1 b10_2) != (0 : Int) then bif bif (↑(rn8_7_5 t0 t1 t2 t10 b10_0 b10_1 b10_2).length : Int) == (0 : Int) then true else true then some (Ex.ret, [AV.int IntKind.u8 t1, AV.int IntKind.u8 t2, AV.bool (bif (↑(rn8_7_5 t0 t1 t2 t10 b10_0 b10_1 b10_2).length : Int) == (0 : Int) then bif true then true else false else false)], []) else none else bif vev19_5 b10_0 b10_1 b10_2 (rn8_7_5 t0 t1 t2 t10 b10_0 b10_1 b10_2) then bif decide (rn8_7_1 t0 t1 t2 t10 b10_0 b10_1 b10_2 > (0 : Int)) then bif (↑(rn8_7_6 t0 t1 t2 t10 b10_0 b10_1 b10_2).length : Int) != (0 : Int) then some (Ex.ret, [AV.int IntKind.u8 t1, AV.int IntKind.u8 t2, AV.bool false], []) else bif vev25_1 (rn8_7_7 t0 t1 t2 t10 b10_0 b10_1 b10_2) (rn8_7_8 t0 t1 t2 t10 b10_0 b10_1 b10_2) (vev19_2 b10_0 b10_1 b10_2 (rn8_7_5 t0 t1 t2 t10 b10_0 b10_1 b10_2)) then bif bif true then bif false then true else vev25_0 (rn8_7_7 t0 t1 t2 t10 b10_0 b10_1 b10_2) (rn8_7_8 t0 t1 t2 t10 b10_0 b10_1 b10_2) (vev19_2 b10_0 b10_1 b10_2 (rn8_7_5 t0 t1 t2 t10 b10_0 b10_1 b10_2)) != rn8_7_1 t0 t1 t2 t10 b10_0 b10_1 b10_2 else false then some (Ex.ret, [AV.int IntKind.u8 t1, AV.int IntKind.u8 t2, AV.bool false], []) else bif bif false then true else vev19_4 b10_0 b10_1 b10_2 (rn8_7_5 t0 t1 t2 t10 b10_0 b10_1 b10_2) != (0 : Int) then some (Ex.ret, [AV.int IntKind.u8 t1, AV.int IntKind.u8 t2, AV.bool false], []) else bif vev25_1 b10_0 b10_1 b10_2 then bif bif false then true else vev25_0 b10_0 b10_1 b10_2 != (9 : Int) then some (Ex.ret, [AV.int IntKind.u8 t1, AV.int IntKind.u8 t2, AV.bool false], []) else bif decide ((0 : Int) ≤ t10) && decide (t10 < (↑t0.length : Int)) then bif decide ((rn8_7_0 t0 t1 t2 t10 b10_0 b10_1 b10_2).length ≤ (4611686018427387904 : Nat)) then bif vev19_5 (rn8_7_7 t0 t1 t2 t10 b10_0 b10_1 b10_2) (rn8_7_8 t0 t1 t2 t10 b10_0 b10_1 b10_2) (vev19_2 b10_0 b10_1 b10_2 (rn8_7_5 t0 t1 t2 t10 b10_0 b10_1 b10_2)) (rn8_7_9 t0 t1 t2 t10 b10_0 b10_1 b10_2) then bif bif decide (((0 : Nat) + (rn8_7_6 t0 t1 t2 t10 b10_0 b10_1 b10_2).length) * (40 : Nat) ≤ (140737488355328 : Nat)) then decide ((0 : Nat) + (rn8_7_6 t0 t1 t2 t10 b10_0 b10_1 b10_2).length ≤ (9223372036854775807 : Nat)) else false then bif bif decide (((rn8_7_10 t0 t1 t2 t10 b10_0 b10_1 b10_2).length + (rn8_7_11 t0 t1 t2 t10 b10_0 b10_1 b10_2).length) * (40 : Nat) ≤ (140737488355328 : Nat)) then decide ((rn8_7_10 t0 t1 t2 t10 b10_0 b10_1 b10_2).length + (rn8_7_11 t0 t1 t2 t10 b10_0 b10_1 b10_2).length ≤ (9223372036854775807 : Nat)) else false then bif bif vev19_4 (rn8_7_7 t0 t1 t2 t10 b10_0 b10_1 b10_2) (rn8_7_8 t0 t1 t2 t10 b10_0 b10_1 b10_2) (vev19_2 b10_0 b10_1 b10_2 (rn8_7_5 t0 t1 t2 t10 b10_0 b10_1 b10_2)) (rn8_7_9 t0 t1 t2 t10 b10_0 b10_1 b10_2) != (0 : Int) then true else bif bif false then true else rn8_7_13 t0 t1 t2 t10 b10_0 b10_1 b10_2 != (1 : Int) then true else bif decide ((0 : Int) ≤ (0 : Int)) && decide ((0 : Int) < rn8_7_13 t0 t1 t2 t10 b10_0 b10_1 b10_2) then bif bif false then true else !(intOf (((rn8_7_12 t0 t1 t2 t10 b10_0 b10_1 b10_2).getD (Int.toNat (0 : Int)) []).getD (0 : Nat) AV.junk) == rn8_7_1 t0 t1 t2 t10 b10_0 b10_1 b10_2 && (intOf (((rn8_7_12 t0 t1 t2 t10 b10_0 b10_1 b10_2).getD (Int.toNat (0 : Int)) []).getD ((0 : Nat) + (1 : Nat)) AV.junk) == rn8_7_2 t0 t1 t2 t10 b10_0 b10_1 b10_2 && (intOf (((rn8_7_12 t0 t1 t2 t10 b10_0 b10_1 b10_2).getD (Int.toNat (0 : Int)) []).getD ((0 : Nat) + (1 : Nat) + (1 : Nat)) AV.junk) == rn8_7_3 t0 t1 t2 t10 b10_0 b10_1 b10_2 && (intOf (((rn8_7_12 t0 t1 t2 t10 b10_0 b10_1 b10_2).getD (Int.toNat (0 : Int)) []).getD ((0 : Nat) + (1 : Nat) + (1 : Nat) + (1 : Nat)) AV.junk) == rn8_7_4 t0 t1 t2 t10 b10_0 b10_1 b10_2 && true)))) then true else bif decide ((0 : Int) ≤ (0 : Int)) && decide ((0 : Int) < rn8_7_13 t0 t1 t2 t10 b10_0 b10_1 b10_2) then bif decide ((0 : Int) ≤ t10) && decide (t10 < (↑t0.length : Int)) then true else false else false else false then bif bif vev19_4 (rn8_7_7 t0 t1 t2 t10 b10_0 b10_1 b10_2) (rn8_7_8 t0 t1 t2 t10 b10_0 b10_1 b10_2) (vev19_2 b10_0 b10_1 b10_2 (rn8_7_5 t0 t1 t2 t10 b10_0 b10_1 b10_2)) (rn8_7_9 t0 t1 t2 t10 b10_0 b10_1 b10_2) != (0 : Int) then true else bif bif false then true else rn8_7_13 t0 t1 t2 t10 b10_0 b10_1 b10_2 != (1 : Int) then true else bif decide ((0 : Int) ≤ (0 : Int)) && decide ((0 : Int) < rn8_7_13 t0 t1 t2 t10 b10_0 b10_1 b10_2) then bif bif false then true else !(intOf (((rn8_7_12 t0 t1 t2 t10 b10_0 b10_1 b10_2).getD (Int.toNat (0 : Int)) []).getD (0 : Nat) AV.junk) == rn8_7_1 t0 t1 t2 t10 b10_0 b10_1 b10_2 && (intOf (((rn8_7_12 t0 t1 t2 t10 b10_0 b10_1 b10_2).getD (Int.toNat (0 : Int)) []).getD ((0 : Nat) + (1 : Nat)) AV.junk) == rn8_7_2 t0 t1 t2 t10 b10_0 b10_1 b10_2 && (intOf (((rn8_7_12 t0 t1 t2 t10 b10_0 b10_1 b10_2).getD (Int.toNat (0 : Int)) []).getD ((0 : Nat) + (1 : Nat) + (1 : Nat)) AV.junk) == rn8_7_3 t0 t1 t2 t10 b10_0 b10_1 b10_2 && (intOf (((rn8_7_12 t0 t1 t2 t10 b10_0 b10_1 b10_2).getD (Int.toNat (0 : Int)) []).getD ((0 : Nat) + (1 : Nat) + (1 : Nat) + (1 : Nat)) AV.junk) == rn8_7_4 t0 t1 t2 t10 b10_0 b10_1 b10_2 && true)))) then true else bif decide ((0 : Int) ≤ (0 : Int)) && decide ((0 : Int) < rn8_7_13 t0 t1 t2 t10 b10_0 b10_1 b10_2) then bif decide ((0 : Int) ≤ t10) && decide (t10 < (↑t0.length : Int)) then bif false then true else !strOf (((rn8_7_12 t0 t1 t2 t10 b10_0 b10_1 b10_2).getD (Int.toNat (0 : Int)) []).getD ((0 : Nat) + (1 : Nat) + (1 : Nat) + (1 : Nat) + (1 : Nat)) AV.junk) == rn8_7_0 t0 t1 t2 t10 b10_0 b10_1 b10_2 else false else false else false then some (Ex.ret, [AV.int IntKind.u8 t1, AV.int IntKind.u8 t2, AV.bool false], []) else some (Ex.norm, [AV.sl Tk.imm [Kd.int IntKind.i64, Kd.int IntKind.u8, Kd.int IntKind.u8, Kd.int IntKind.i64, Kd.str] t0, AV.int IntKind.u8 t1, AV.int IntKind.u8 t2, AV.hp (nat_lit 10) (nat_lit 0), AV.int IntKind.i64 (IntKind.i64.wrap (t10 + (1 : Int)))], [Blk.dead, Blk.var [AV.int IntKind.i64 (vev19_0 (rn8_7_7 t0 t1 t2 t10 b10_0 b10_1 b10_2) (rn8_7_8 t0 t1 t2 t10 b10_0 b10_1 b10_2) (vev19_2 b10_0 b10_1 b10_2 (rn8_7_5 t0 t1 t2 t10 b10_0 b10_1 b10_2)) (rn8_7_9 t0 t1 t2 t10 b10_0 b10_1 b10_2)), AV.str (vev19_1 (rn8_7_7 t0 t1 t2 t10 b10_0 b10_1 b10_2) (rn8_7_8 t0 t1 t2 t10 b10_0 b10_1 b10_2) (vev19_2 b10_0 b10_1 b10_2 (rn8_7_5 t0 t1 t2 t10 b10_0 b10_1 b10_2)) (rn8_7_9 t0 t1 t2 t10 b10_0 b10_1 b10_2)), AV.bool (vev19_2 (rn8_7_7 t0 t1 t2 t10 b10_0 b10_1 b10_2) (rn8_7_8 t0 t1 t2 t10 b10_0 b10_1 b10_2) (vev19_2 b10_0 b10_1 b10_2 (rn8_7_5 t0 t1 t2 t10 b10_0 b10_1 b10_2)) (rn8_7_9 t0 t1 t2 t10 b10_0 b10_1 b10_2))]]) else none else none else none else none else none else none else none else none else bif bif false then true else vev19_4 b10_0 b10_1 b10_2 (rn8_7_5 t0 t1 t2 t10 b10_0 b10_1 b10_2) != (0 : Int) then some (Ex.ret, [AV.int IntKind.u8 t1, AV.int IntKind.u8 t2, AV.bool false], []) else bif vev25_1 b10_0 b10_1 b10_2 then bif bif false then true else vev25_0 b10_0 b10_1 b10_2 != (9 : Int) then some (Ex.ret, [AV.int IntKind.u8 t1, AV.int IntKind.u8 t2, AV.bool false], []) else bif decide ((0 : Int) ≤ t10) && decide (t10 < (↑t0.length : Int)) then bif decide ((rn8_7_0 t0 t1 t2 t10 b10_0 b10_1 b10_2).length ≤ (4611686018427387904 : Nat)) then bif vev19_5 (rn8_7_7 t0 t1 t2 t10 b10_0 b10_1 b10_2) (rn8_7_8 t0 t1 t2 t10 b10_0 b10_1 b10_2) (vev19_2 b10_0 b10_1 b10_2 (rn8_7_5 t0 t1 t2 t10 b10_0 b10_1 b10_2)) (rn8_7_9 t0 t1 t2 t10 b10_0 b10_1 b10_2) then bif bif decide (((0 : Nat) + (rn8_7_6 t0 t1 t2 t10 b10_0 b10_1 b10_2).length) * (40 : Nat) ≤ (140737488355328 : Nat)) then decide ((0 : Nat) + (rn8_7_6 t0 t1 t2 t10 b10_0 b10_1 b10_2).length ≤ (9223372036854775807 : Nat)) else false then bif bif decide (((rn8_7_10 t0 t1 t2 t10 b10_0 b10_1 b10_2).length + (rn8_7_11 t0 t1 t2 t10 b10_0 b10_1 b10_2).length) * (40 : Nat) ≤ (140737488355328 : Nat)) then decide ((rn8_7_10 t0 t1 t2 t10 b10_0 b10_1 b10_2).length + (rn8_7_11 t0 t1 t2 t10 b10_0 b10_1 b10_2).length ≤ (9223372036854775807 : Nat)) else false then bif bif vev19_4 (rn8_7_7 t0 t1 t2 t10 b10_0 b10_1 b10_2) (rn8_7_8 t0 t1 t2 t10 b10_0 b10_1 b10_2) (vev19_2 b10_0 b10_1 b10_2 (rn8_7_5 t0 t1 t2 t10 b10_0 b10_1 b10_2)) (rn8_7_9 t0 t1 t2 t10 b10_0 b10_1 b10_2) != (0 : Int) then true else bif bif false then true else rn8_7_13 t0 t1 t2 t10 b10_0 b10_1 b10_2 != (1 : Int) then true else bif decide ((0 : Int) ≤ (0 : Int)) && decide ((0 : Int) < rn8_7_13 t0 t1 t2 t10 b10_0 b10_1 b10_2) then bif bif false then true else !(intOf (((rn8_7_12 t0 t1 t2 t10 b10_0 b10_1 b10_2).getD (Int.toNat (0 : Int)) []).getD (0 : Nat) AV.junk) == rn8_7_1 t0 t1 t2 t10 b10_0 b10_1 b10_2 && (intOf (((rn8_7_12 t0 t1 t2 t10 b10_0 b10_1 b10_2).getD (Int.toNat (0 : Int)) []).getD ((0 : Nat) + (1 : Nat)) AV.junk) == rn8_7_2 t0 t1 t2 t10 b10_0 b10_1 b10_2 && (intOf (((rn8_7_12 t0 t1 t2 t10 b10_0 b10_1 b10_2).getD (Int.toNat (0 : Int)) []).getD ((0 : Nat) + (1 : Nat) + (1 : Nat)) AV.junk) == rn8_7_3 t0 t1 t2 t10 b10_0 b10_1 b10_2 && (intOf (((rn8_7_12 t0 t1 t2 t10 b10_0 b10_1 b10_2).getD (Int.toNat (0 : Int)) []).getD ((0 : Nat) + (1 : Nat) + (1 : Nat) + (1 : Nat)) AV.junk) == rn8_7_4 t0 t1 t2 t10 b10_0 b10_1 b10_2 && true)))) then true else bif decide ((0 : Int) ≤ (0 : Int)) && decide ((0 : Int) < rn8_7_13 t0 t1 t2 t10 b10_0 b10_1 b10_2) then bif decide ((0 : Int) ≤ t10) && decide (t10 < (↑t0.length : Int)) then true else false else false else false then bif bif vev19_4 (rn8_7_7 t0 t1 t2 t10 b10_0 b10_1 b10_2) (rn8_7_8 t0 t1 t2 t10 b10_0 b10_1 b10_2) (vev19_2 b10_0 b10_1 b10_2 (rn8_7_5 t0 t1 t2 t10 b10_0 b10_1 b10_2)) (rn8_7_9 t0 t1 t2 t10 b10_0 b10_1 b10_2) != (0 : Int) then true else bif bif false then true else rn8_7_13 t0 t1 t2 t10 b10_0 b10_1 b10_2 != (1 : Int) then true else bif decide ((0 : Int) ≤ (0 : Int)) && decide ((0 : Int) < rn8_7_13 t0 t1 t2 t10 b10_0 b10_1 b10_2) then bif bif false then true else !(intOf (((rn8_7_12 t0 t1 t2 t10 b10_0 b10_1 b10_2).getD (Int.toNat (0 : Int)) []).getD (0 : Nat) AV.junk) == rn8_7_1 t0 t1 t2 t10 b10_0 b10_1 b10_2 && (intOf (((rn8_7_12 t0 t1 t2 t10 b10_0 b10_1 b10_2).getD (Int.toNat (0 : Int)) []).getD ((0 : Nat) + (1 : Nat)) AV.junk) == rn8_7_2 t0 t1 t2 t10 b10_0 b10_1 b10_2 && (intOf (((rn8_7_12 t0 t1 t2 t10 b10_0 b10_1 b10_2).getD (Int.toNat (0 : Int)) []).getD ((0 : Nat) + (1 : Nat) + (1 : Nat)) AV.junk) == rn8_7_3 t0 t1 t2 t10 b10_0 b10_1 b10_2 && (intOf (((rn8_7_12 t0 t1 t2 t10 b10_0 b10_1 b10_2).getD (Int.toNat (0 : Int)) []).getD ((0 : Nat) + (1 : Nat) + (1 : Nat) + (1 : Nat)) AV.junk) == rn8_7_4 t0 t1 t2 t10 b10_0 b10_1 b10_2 && true)))) then true else bif decide ((0 : Int) ≤ (0 : Int)) && decide ((0 : Int) < rn8_7_13 t0 t1 t2 t10 b10_0 b10_1 b10_2) then bif decide ((0 : Int) ≤ t10) && decide (t10 < (↑t0.length : Int)) then bif false then true else !strOf (((rn8_7_12 t0 t1 t2 t10 b10_0 b10_1 b10_2).getD (Int.toNat (0 : Int)) []).getD ((0 : Nat) + (1 : Nat) + (1 : Nat) + (1 : Nat) + (1 : Nat)) AV.junk) == rn8_7_0 t0 t1 t2 t10 b10_0 b10_1 b10_2 else false else false else false then some (Ex.ret, [AV.int IntKind.u8 t1, AV.int IntKind.u8 t2, AV.bool false], []) else some (Ex.norm, [AV.sl Tk.imm [Kd.int IntKind.i64, Kd.int IntKind.u8, Kd.int IntKind.u8, Kd.int IntKind.i64, Kd.str] t0, AV.int IntKind.u8 t1, AV.int IntKind.u8 t2, AV.hp (nat_lit 10) (nat_lit 0), AV.int IntKind.i64 (IntKind.i64.wrap (t10 + (1 : Int)))], [Blk.dead, Blk.var [AV.int IntKind.i64 (vev19_0 (rn8_7_7 t0 t1 t2 t10 b10_0 b10_1 b10_2) (rn8_7_8 t0 t1 t2 t10 b10_0 b10_1 b10_2) (vev19_2 b10_0 b10_1 b10_2 (rn8_7_5 t0 t1 t2 t10 b10_0 b10_1 b10_2)) (rn8_7_9 t0 t1 t2 t10 b10_0 b10_1 b10_2)), AV.str (vev19_1 (rn8_7_7 t0 t1 t2 t10 b10_0 b10_1 b10_2) (rn8_7_8 t0 t1 t2 t10 b10_0 b10_1 b10_2) (vev19_2 b10_0 b10_1 b10_2 (rn8_7_5 t0 t1 t2 t10 b10_0 b10_1 b10_2)) (rn8_7_9 t0 t1 t2 t10 b10_0 b10_1 b10_2)), AV.bool (vev19_2 (rn8_7_7 t0 t1 t2 t10 b10_0 b10_1 b10_2) (rn8_7_8 t0 t1 t2 t10 b10_0 b10_1 b10_2) (vev19_2 b10_0 b10_1 b10_2 (rn8_7_5 t0 t1 t2 t10 b10_0 b10_1 b10_2)) (rn8_7_9 t0 t1 t2 t10 b10_0 b10_1 b10_2))]]) else none else none else none else none else none else none else none else none else none else none else none else none else none else some (Ex.exit (nat_lit 0), [AV.int IntKind.u8 t1, AV.int IntKind.u8 t2, AV.junk], []) := by kernel_rfl
  rw [h]
  clear h
  unfold go8_7 nx8_7_3 nx8_7_4 nx8_7_5 nx8_7_6 xc8_7_0 xv8_7_0_0 xc8_7_1
  generalize (!(intOf (((rn8_7_12 t0 t1 t2 t10 b10_0 b10_1 b10_2).getD (Int.toNat (0 : Int)) []).getD (0 : Nat) AV.junk) == rn8_7_1 t0 t1 t2 t10 b10_0 b10_1 b10_2 && (intOf (((rn8_7_12 t0 t1 t2 t10 b10_0 b10_1 b10_2).getD (Int.toNat (0 : Int)) []).getD ((0 : Nat) + (1 : Nat)) AV.junk) == rn8_7_2 t0 t1 t2 t10 b10_0 b10_1 b10_2 && (intOf (((rn8_7_12 t0 t1 t2 t10 b10_0 b10_1 b10_2).getD (Int.toNat (0 : Int)) []).getD ((0 : Nat) + (1 : Nat) + (1 : Nat)) AV.junk) == rn8_7_3 t0 t1 t2 t10 b10_0 b10_1 b10_2 && (intOf (((rn8_7_12 t0 t1 t2 t10 b10_0 b10_1 b10_2).getD (Int.toNat (0 : Int)) []).getD ((0 : Nat) + (1 : Nat) + (1 : Nat) + (1 : Nat)) AV.junk) == rn8_7_4 t0 t1 t2 t10 b10_0 b10_1 b10_2 && true))))) = c0
  generalize (decide (((rn8_7_10 t0 t1 t2 t10 b10_0 b10_1 b10_2).length + (rn8_7_11 t0 t1 t2 t10 b10_0 b10_1 b10_2).length) * (40 : Nat) ≤ (140737488355328 : Nat))) = c1
  generalize (!strOf (((rn8_7_12 t0 t1 t2 t10 b10_0 b10_1 b10_2).getD (Int.toNat (0 : Int)) []).getD ((0 : Nat) + (1 : Nat) + (1 : Nat) + (1 : Nat) + (1 : Nat)) AV.junk) == rn8_7_0 t0 t1 t2 t10 b10_0 b10_1 b10_2) = c2
  generalize (decide (((0 : Nat) + (rn8_7_6 t0 t1 t2 t10 b10_0 b10_1 b10_2).length) * (40 : Nat) ≤ (140737488355328 : Nat))) = c3
  generalize (decide ((rn8_7_10 t0 t1 t2 t10 b10_0 b10_1 b10_2).length + (rn8_7_11 t0 t1 t2 t10 b10_0 b10_1 b10_2).length ≤ (9223372036854775807 : Nat))) = c4
  generalize (decide ((0 : Nat) + (rn8_7_6 t0 t1 t2 t10 b10_0 b10_1 b10_2).length ≤ (9223372036854775807 : Nat))) = c5
  generalize (decide ((0 : Int) ≤ (0 : Int)) && decide ((0 : Int) < rn8_7_13 t0 t1 t2 t10 b10_0 b10_1 b10_2)) = c6
  generalize (vev19_4 (rn8_7_7 t0 t1 t2 t10 b10_0 b10_1 b10_2) (rn8_7_8 t0 t1 t2 t10 b10_0 b10_1 b10_2) (vev19_2 b10_0 b10_1 b10_2 (rn8_7_5 t0 t1 t2 t10 b10_0 b10_1 b10_2)) (rn8_7_9 t0 t1 t2 t10 b10_0 b10_1 b10_2) != (0 : Int)) = c7
  generalize (vev9_1 (rn8_7_1 t0 t1 t2 t10 b10_0 b10_1 b10_2) (rn8_7_2 t0 t1 t2 t10 b10_0 b10_1 b10_2) (rn8_7_3 t0 t1 t2 t10 b10_0 b10_1 b10_2) (rn8_7_4 t0 t1 t2 t10 b10_0 b10_1 b10_2) != (0 : Int)) = c8
  generalize (vev25_0 (rn8_7_7 t0 t1 t2 t10 b10_0 b10_1 b10_2) (rn8_7_8 t0 t1 t2 t10 b10_0 b10_1 b10_2) (vev19_2 b10_0 b10_1 b10_2 (rn8_7_5 t0 t1 t2 t10 b10_0 b10_1 b10_2)) != rn8_7_1 t0 t1 t2 t10 b10_0 b10_1 b10_2) = c9
  generalize (decide ((0 : Int) ≤ t10) && decide (t10 < (↑t0.length : Int))) = c10
  generalize (vev19_5 (rn8_7_7 t0 t1 t2 t10 b10_0 b10_1 b10_2) (rn8_7_8 t0 t1 t2 t10 b10_0 b10_1 b10_2) (vev19_2 b10_0 b10_1 b10_2 (rn8_7_5 t0 t1 t2 t10 b10_0 b10_1 b10_2)) (rn8_7_9 t0 t1 t2 t10 b10_0 b10_1 b10_2)) = c11
  generalize (decide ((rn8_7_0 t0 t1 t2 t10 b10_0 b10_1 b10_2).length ≤ (4611686018427387904 : Nat))) = c12
  generalize (decide (rn8_7_1 t0 t1 t2 t10 b10_0 b10_1 b10_2 > (0 : Int))) = c13
  generalize (decide (rn8_7_1 t0 t1 t2 t10 b10_0 b10_1 b10_2 > (60 : Int))) = c14
  generalize (vev25_1 (rn8_7_7 t0 t1 t2 t10 b10_0 b10_1 b10_2) (rn8_7_8 t0 t1 t2 t10 b10_0 b10_1 b10_2) (vev19_2 b10_0 b10_1 b10_2 (rn8_7_5 t0 t1 t2 t10 b10_0 b10_1 b10_2))) = c15
  generalize ((↑(rn8_7_6 t0 t1 t2 t10 b10_0 b10_1 b10_2).length : Int) != (0 : Int)) = c16
  generalize ((↑(rn8_7_5 t0 t1 t2 t10 b10_0 b10_1 b10_2).length : Int) == (0 : Int)) = c17
  generalize (vev19_4 b10_0 b10_1 b10_2 (rn8_7_5 t0 t1 t2 t10 b10_0 b10_1 b10_2) != (0 : Int)) = c18
  generalize (decide (t10 < (↑t0.length : Int))) = c19
  generalize (rn8_7_13 t0 t1 t2 t10 b10_0 b10_1 b10_2 != (1 : Int)) = c20
  generalize (vev25_0 b10_0 b10_1 b10_2 != (9 : Int)) = c21
  generalize (vev19_5 b10_0 b10_1 b10_2 (rn8_7_5 t0 t1 t2 t10 b10_0 b10_1 b10_2)) = c22
  generalize (vev25_1 b10_0 b10_1 b10_2) = c23
  cases c19
  · skip
    rfl
  · skip
    cases c10
    · skip
      rfl
    · skip
      cases c14
      · skip
        cases c8
        · skip
          cases c22
          · skip
            rfl
          · skip
            cases c13
            · skip
              cases c18
              · skip
                cases c23
                · skip
                  rfl
                · skip
                  cases c21
                  · skip
                    cases c12
                    · skip
                      rfl
                    · skip
                      cases c11
                      · skip
                        rfl
                      · skip
                        cases c3
                        · skip
                          rfl
                        · skip
                          cases c5
                          · skip
                            rfl
                          · skip
                            cases c1
                            · skip
                              rfl
                            · skip
                              cases c4
                              · skip
                                rfl
                              · skip
                                cases c7
                                · skip
                                  cases c20
                                  · skip
                                    cases c6
                                    · skip
                                      rfl
                                    · skip
                                      cases c0
                                      · skip
                                        cases c2
                                        · skip
                                          rfl
                                        · skip
                                          rfl
                                      · skip
                                        rfl
                                  · skip
                                    rfl
                                · skip
                                  rfl
                  · skip
                    rfl
              · skip
                rfl
            · skip
              cases c16
              · skip
                cases c15
                · skip
                  rfl
                · skip
                  cases c9
                  · skip
                    cases c18
                    · skip
                      cases c23
                      · skip
                        rfl
                      · skip
                        cases c21
                        · skip
                          cases c12
                          · skip
                            rfl
                          · skip
                            cases c11
                            · skip
                              rfl
                            · skip
                              cases c3
                              · skip
                                rfl
                              · skip
                                cases c5
                                · skip
                                  rfl
                                · skip
                                  cases c1
                                  · skip
                                    rfl
                                  · skip
                                    cases c4
                                    · skip
                                      rfl
                                    · skip
                                      cases c7
                                      · skip
                                        cases c20
                                        · skip
                                          cases c6
                                          · skip
                                            rfl
                                          · skip
                                            cases c0
                                            · skip
                                              cases c2
                                              · skip
                                                rfl
                                              · skip
                                                rfl
                                            · skip
                                              rfl
                                        · skip
                                          rfl
                                      · skip
                                        rfl
                        · skip
                          rfl
                    · skip
                      rfl
                  · skip
                    rfl
              · skip
                rfl
        · skip
          cases c17
          · skip
            rfl
          · skip
            rfl
      · skip
        rfl
abbrev pl8_7 : Type := (List (List AV)) × Int × Int
abbrev sl8_7 : Type := Int × Int × (List UInt8) × Bool
noncomputable def vt8_7 (a : pl8_7 × sl8_7) : List AV := [AV.sl Tk.imm [Kd.int IntKind.i64, Kd.int IntKind.u8, Kd.int IntKind.u8, Kd.int IntKind.i64, Kd.str] a.1.1, AV.int IntKind.u8 a.1.2.1, AV.int IntKind.u8 a.1.2.2, AV.hp (nat_lit 10) (nat_lit 0), AV.int IntKind.i64 a.2.1]
noncomputable def vc8_7 (a : pl8_7 × sl8_7) : List Blk := [Blk.dead, Blk.var [AV.int IntKind.i64 a.2.2.1, AV.str a.2.2.2.1, AV.bool a.2.2.2.2]]
noncomputable def de8_7 (vt : List AV) (vc : List Blk) : Option (pl8_7 × sl8_7) :=
  match vt with
  | [qa0, qa1, qa2, qa3, qa4] => (match vc with
  | [qb0, qb1] => (match qa0 with
  | AV.sl Tk.imm [Kd.int IntKind.i64, Kd.int IntKind.u8, Kd.int IntKind.u8, Kd.int IntKind.i64, Kd.str] t0 => (match qa1 with
  | AV.int IntKind.u8 t1 => (match qa2 with
  | AV.int IntKind.u8 t2 => (match qa3 with
  | AV.hp (10) (0) => (match qa4 with
  | AV.int IntKind.i64 t10 => (match qb0 with
  | Blk.dead => (match qb1 with
  | Blk.var [AV.int IntKind.i64 b10_0, AV.str b10_1, AV.bool b10_2] => (some ((t0, t1, t2), (t10, b10_0, b10_1, b10_2)))
  | _ => none)
  | _ => none)
  | _ => none)
  | _ => none)
  | _ => none)
  | _ => none)
  | _ => none)
  | _ => none)
  | _ => none
theorem de8_7_ok (vt : List AV) (vc : List Blk) (a : pl8_7 × sl8_7) (h : de8_7 vt vc = some a) : vt = vt8_7 a ∧ vc = vc8_7 a := by
  unfold de8_7 at h
  split at h
  rotate_left
  · cases h
  split at h
  rotate_left
  · cases h
  split at h
  rotate_left
  · cases h
  split at h
  rotate_left
  · cases h
  split at h
  rotate_left
  · cases h
  split at h
  rotate_left
  · cases h
  split at h
  rotate_left
  · cases h
  split at h
  rotate_left
  · cases h
  split at h
  rotate_left
  · cases h
  injection h with h
  subst h
  exact ⟨rfl, rfl⟩
noncomputable def g8_7 (p : pl8_7) (s : sl8_7) : Bool := go8_7 p.1 p.2.1 p.2.2 s.1 s.2.1 s.2.2.1 s.2.2.2
noncomputable def n8_7 (p : pl8_7) (s : sl8_7) : sl8_7 := (nx8_7_3 p.1 p.2.1 p.2.2 s.1 s.2.1 s.2.2.1 s.2.2.2, nx8_7_4 p.1 p.2.1 p.2.2 s.1 s.2.1 s.2.2.1 s.2.2.2, nx8_7_5 p.1 p.2.1 p.2.2 s.1 s.2.1 s.2.2.1 s.2.2.2, nx8_7_6 p.1 p.2.1 p.2.2 s.1 s.2.1 s.2.2.1 s.2.2.2)
noncomputable def y8_7 (p : pl8_7) (s : sl8_7) : List (Bool × Out) := [(xc8_7_0 p.1 p.2.1 p.2.2 s.1 s.2.1 s.2.2.1 s.2.2.2, (Ex.ret, [AV.int IntKind.u8 p.2.1, AV.int IntKind.u8 p.2.2, AV.bool (xv8_7_0_0 p.1 p.2.1 p.2.2 s.1 s.2.1 s.2.2.1 s.2.2.2)], []))]
noncomputable def z8_7 (p : pl8_7) (s : sl8_7) : Bool := xc8_7_1 p.1 p.2.1 p.2.2 s.1 s.2.1 s.2.2.1 s.2.2.2
noncomputable def d8_7 (p : pl8_7) (s : sl8_7) : Out := (Ex.exit (nat_lit 0), [AV.int IntKind.u8 p.2.1, AV.int IntKind.u8 p.2.2, AV.junk], [])
noncomputable def ls8_7 : St → Option (Bool × List (Bool × Ex × St) × Ex × St) := lspOf [0, 1, 2, 7, 10] [7, 10] [1, 2, 6] [] Try.f8.ntmps (0 + tab.nid 8) de8_7 (spI g8_7 n8_7 y8_7 z8_7 d8_7)
theorem lo8_7 (rest : Lsp) : LoopOK1 (cfg Try.prog tab 100000 (gk k9 30) (selL 7 ls8_7 rest) 8 0 Try.f8.ntmps) (loopAt Try.f8 7) := LoopOK1.iter (i := 7) (by kernel_rfl) [0, 1, 2, 7, 10] [7, 10] [1, 2, 6] [] vt8_7 vc8_7 de8_7 g8_7 n8_7 y8_7 z8_7 d8_7 (fun _ => rfl) de8_7_ok (fun p s => rd8_7 (selL 7 ls8_7 rest) (p.1) (p.2.1) (p.2.2) (s.1) (s.2.1) (s.2.2.1) (s.2.2.2)) (fun _ _ => rfl)
noncomputable def lsp8 : Lsp := (selL 7 ls8_7 noLsp)
theorem loops8 : ∀ c, Try.f8.body = some c → LoopsOK (cfg Try.prog tab 100000 (gk k9 30) lsp8 8 0 Try.f8.ntmps) c := loops_of [7] (by kernel_rfl) (by kernel_rfl) (fun i hi => by
  simp only [List.mem_cons, List.not_mem_nil, or_false] at hi
  subst hi
  · exact lo8_7 noLsp)
noncomputable def rev8_0 (es : List (List AV)) (k : Int) (by' : Int) : sl8_7 := finL (g8_7 (es, k, by')) (n8_7 (es, k, by')) ((0 : Int), vev19_0 (0 : Int) (ByteArray.mk #[]).data.toList false [[AV.int IntKind.u8 (80 : Int)], [AV.int IntKind.u8 (82 : Int)], [AV.int IntKind.u8 (73 : Int)], [AV.int IntKind.u8 (32 : Int)], [AV.int IntKind.u8 (42 : Int)], [AV.int IntKind.u8 (32 : Int)], [AV.int IntKind.u8 (72 : Int)], [AV.int IntKind.u8 (84 : Int)], [AV.int IntKind.u8 (84 : Int)], [AV.int IntKind.u8 (80 : Int)], [AV.int IntKind.u8 (47 : Int)], [AV.int IntKind.u8 (50 : Int)], [AV.int IntKind.u8 (46 : Int)], [AV.int IntKind.u8 (48 : Int)], [AV.int IntKind.u8 (13 : Int)], [AV.int IntKind.u8 (10 : Int)], [AV.int IntKind.u8 (13 : Int)], [AV.int IntKind.u8 (10 : Int)], [AV.int IntKind.u8 (83 : Int)], [AV.int IntKind.u8 (77 : Int)], [AV.int IntKind.u8 (13 : Int)], [AV.int IntKind.u8 (10 : Int)], [AV.int IntKind.u8 (13 : Int)], [AV.int IntKind.u8 (10 : Int)]], vev19_1 (0 : Int) (ByteArray.mk #[]).data.toList false [[AV.int IntKind.u8 (80 : Int)], [AV.int IntKind.u8 (82 : Int)], [AV.int IntKind.u8 (73 : Int)], [AV.int IntKind.u8 (32 : Int)], [AV.int IntKind.u8 (42 : Int)], [AV.int IntKind.u8 (32 : Int)], [AV.int IntKind.u8 (72 : Int)], [AV.int IntKind.u8 (84 : Int)], [AV.int IntKind.u8 (84 : Int)], [AV.int IntKind.u8 (80 : Int)], [AV.int IntKind.u8 (47 : Int)], [AV.int IntKind.u8 (50 : Int)], [AV.int IntKind.u8 (46 : Int)], [AV.int IntKind.u8 (48 : Int)], [AV.int IntKind.u8 (13 : Int)], [AV.int IntKind.u8 (10 : Int)], [AV.int IntKind.u8 (13 : Int)], [AV.int IntKind.u8 (10 : Int)], [AV.int IntKind.u8 (83 : Int)], [AV.int IntKind.u8 (77 : Int)], [AV.int IntKind.u8 (13 : Int)], [AV.int IntKind.u8 (10 : Int)], [AV.int IntKind.u8 (13 : Int)], [AV.int IntKind.u8 (10 : Int)]], vev19_2 (0 : Int) (ByteArray.mk #[]).data.toList false [[AV.int IntKind.u8 (80 : Int)], [AV.int IntKind.u8 (82 : Int)], [AV.int IntKind.u8 (73 : Int)], [AV.int IntKind.u8 (32 : Int)], [AV.int IntKind.u8 (42 : Int)], [AV.int IntKind.u8 (32 : Int)], [AV.int IntKind.u8 (72 : Int)], [AV.int IntKind.u8 (84 : Int)], [AV.int IntKind.u8 (84 : Int)], [AV.int IntKind.u8 (80 : Int)], [AV.int IntKind.u8 (47 : Int)], [AV.int IntKind.u8 (50 : Int)], [AV.int IntKind.u8 (46 : Int)], [AV.int IntKind.u8 (48 : Int)], [AV.int IntKind.u8 (13 : Int)], [AV.int IntKind.u8 (10 : Int)], [AV.int IntKind.u8 (13 : Int)], [AV.int IntKind.u8 (10 : Int)], [AV.int IntKind.u8 (83 : Int)], [AV.int IntKind.u8 (77 : Int)], [AV.int IntKind.u8 (13 : Int)], [AV.int IntKind.u8 (10 : Int)], [AV.int IntKind.u8 (13 : Int)], [AV.int IntKind.u8 (10 : Int)]])
noncomputable def rev8_1 (es : List (List AV)) (k : Int) (by' : Int) : Int := (rev8_0 es k by').fst
noncomputable def rev8_2 (es : List (List AV)) (k : Int) (by' : Int) : Int := (rev8_0 es k by').snd.fst
noncomputable def rev8_3 (es : List (List AV)) (k : Int) (by' : Int) : List UInt8 := (rev8_0 es k by').snd.snd.fst
noncomputable def rev8_4 (es : List (List AV)) (k : Int) (by' : Int) : Int := rn8_7_1 es k by' (rev8_1 es k by') (rev8_2 es k by') (rev8_3 es k by') (rev8_0 es k by').snd.snd.snd
noncomputable def rev8_5 (es : List (List AV)) (k : Int) (by' : Int) : Int := rn8_7_2 es k by' (rev8_1 es k by') (rev8_2 es k by') (rev8_3 es k by') (rev8_0 es k by').snd.snd.snd
noncomputable def rev8_6 (es : List (List AV)) (k : Int) (by' : Int) : Int := rn8_7_3 es k by' (rev8_1 es k by') (rev8_2 es k by') (rev8_3 es k by') (rev8_0 es k by').snd.snd.snd
noncomputable def rev8_7 (es : List (List AV)) (k : Int) (by' : Int) : Int := rn8_7_4 es k by' (rev8_1 es k by') (rev8_2 es k by') (rev8_3 es k by') (rev8_0 es k by').snd.snd.snd
noncomputable def rev8_8 (es : List (List AV)) (k : Int) (by' : Int) : Int := vev9_1 (rev8_4 es k by') (rev8_5 es k by') (rev8_6 es k by') (rev8_7 es k by')
noncomputable def rev8_9 (es : List (List AV)) (k : Int) (by' : Int) : List (List AV) := rn8_7_5 es k by' (rev8_1 es k by') (rev8_2 es k by') (rev8_3 es k by') (rev8_0 es k by').snd.snd.snd
noncomputable def rev8_10 (es : List (List AV)) (k : Int) (by' : Int) : Int := (↑(rn8_7_6 es k by' (rev8_1 es k by') (rev8_2 es k by') (rev8_3 es k by') (rev8_0 es k by').snd.snd.snd).length : Int)
noncomputable def rev8_11 (es : List (List AV)) (k : Int) (by' : Int) : Int := rn8_7_7 es k by' (rev8_1 es k by') (rev8_2 es k by') (rev8_3 es k by') (rev8_0 es k by').snd.snd.snd
noncomputable def rev8_12 (es : List (List AV)) (k : Int) (by' : Int) : List UInt8 := rn8_7_8 es k by' (rev8_1 es k by') (rev8_2 es k by') (rev8_3 es k by') (rev8_0 es k by').snd.snd.snd
noncomputable def rev8_13 (es : List (List AV)) (k : Int) (by' : Int) : Int := vev25_0 (rev8_11 es k by') (rev8_12 es k by') (vev19_2 (rev8_2 es k by') (rev8_3 es k by') (rev8_0 es k by').snd.snd.snd (rev8_9 es k by'))
noncomputable def rev8_14 (es : List (List AV)) (k : Int) (by' : Int) : Int := vev19_4 (rev8_2 es k by') (rev8_3 es k by') (rev8_0 es k by').snd.snd.snd (rev8_9 es k by')
noncomputable def rev8_15 (es : List (List AV)) (k : Int) (by' : Int) : Int := vev25_0 (rev8_2 es k by') (rev8_3 es k by') (rev8_0 es k by').snd.snd.snd
noncomputable def rev8_16 (es : List (List AV)) (k : Int) (by' : Int) : List UInt8 := rn8_7_0 es k by' (rev8_1 es k by') (rev8_2 es k by') (rev8_3 es k by') (rev8_0 es k by').snd.snd.snd
noncomputable def rev8_17 (es : List (List AV)) (k : Int) (by' : Int) : List (List AV) := rn8_7_9 es k by' (rev8_1 es k by') (rev8_2 es k by') (rev8_3 es k by') (rev8_0 es k by').snd.snd.snd
noncomputable def rev8_18 (es : List (List AV)) (k : Int) (by' : Int) : Int := vev19_4 (rev8_11 es k by') (rev8_12 es k by') (vev19_2 (rev8_2 es k by') (rev8_3 es k by') (rev8_0 es k by').snd.snd.snd (rev8_9 es k by')) (rev8_17 es k by')
noncomputable def rev8_19 (es : List (List AV)) (k : Int) (by' : Int) : Int := rn8_7_13 es k by' (rev8_1 es k by') (rev8_2 es k by') (rev8_3 es k by') (rev8_0 es k by').snd.snd.snd
noncomputable def rev8_20 (es : List (List AV)) (k : Int) (by' : Int) : Int := intOf (((rn8_7_12 es k by' (rev8_1 es k by') (rev8_2 es k by') (rev8_3 es k by') (rev8_0 es k by').snd.snd.snd).getD (Int.toNat (0 : Int)) []).getD (0 : Nat) AV.junk)
noncomputable def rev8_21 (es : List (List AV)) (k : Int) (by' : Int) : Int := intOf (((rn8_7_12 es k by' (rev8_1 es k by') (rev8_2 es k by') (rev8_3 es k by') (rev8_0 es k by').snd.snd.snd).getD (Int.toNat (0 : Int)) []).getD ((0 : Nat) + (1 : Nat)) AV.junk)
noncomputable def rev8_22 (es : List (List AV)) (k : Int) (by' : Int) : Int := intOf (((rn8_7_12 es k by' (rev8_1 es k by') (rev8_2 es k by') (rev8_3 es k by') (rev8_0 es k by').snd.snd.snd).getD (Int.toNat (0 : Int)) []).getD ((0 : Nat) + (1 : Nat) + (1 : Nat)) AV.junk)
noncomputable def rev8_23 (es : List (List AV)) (k : Int) (by' : Int) : Int := intOf (((rn8_7_12 es k by' (rev8_1 es k by') (rev8_2 es k by') (rev8_3 es k by') (rev8_0 es k by').snd.snd.snd).getD (Int.toNat (0 : Int)) []).getD ((0 : Nat) + (1 : Nat) + (1 : Nat) + (1 : Nat)) AV.junk)
noncomputable def rev8_24 (es : List (List AV)) (k : Int) (by' : Int) : Int := (IntKind.i64.wrap k).tmod (↑[[AV.int IntKind.u8 (80 : Int)], [AV.int IntKind.u8 (82 : Int)], [AV.int IntKind.u8 (73 : Int)], [AV.int IntKind.u8 (32 : Int)], [AV.int IntKind.u8 (42 : Int)], [AV.int IntKind.u8 (32 : Int)], [AV.int IntKind.u8 (72 : Int)], [AV.int IntKind.u8 (84 : Int)], [AV.int IntKind.u8 (84 : Int)], [AV.int IntKind.u8 (80 : Int)], [AV.int IntKind.u8 (47 : Int)], [AV.int IntKind.u8 (50 : Int)], [AV.int IntKind.u8 (46 : Int)], [AV.int IntKind.u8 (48 : Int)], [AV.int IntKind.u8 (13 : Int)], [AV.int IntKind.u8 (10 : Int)], [AV.int IntKind.u8 (13 : Int)], [AV.int IntKind.u8 (10 : Int)], [AV.int IntKind.u8 (83 : Int)], [AV.int IntKind.u8 (77 : Int)], [AV.int IntKind.u8 (13 : Int)], [AV.int IntKind.u8 (10 : Int)], [AV.int IntKind.u8 (13 : Int)], [AV.int IntKind.u8 (10 : Int)]].length : Int)
noncomputable def rev8_25 (es : List (List AV)) (k : Int) (by' : Int) : List (List AV) := [[AV.int IntKind.u8 (80 : Int)], [AV.int IntKind.u8 (82 : Int)], [AV.int IntKind.u8 (73 : Int)], [AV.int IntKind.u8 (32 : Int)], [AV.int IntKind.u8 (42 : Int)], [AV.int IntKind.u8 (32 : Int)], [AV.int IntKind.u8 (72 : Int)], [AV.int IntKind.u8 (84 : Int)], [AV.int IntKind.u8 (84 : Int)], [AV.int IntKind.u8 (80 : Int)], [AV.int IntKind.u8 (47 : Int)], [AV.int IntKind.u8 (50 : Int)], [AV.int IntKind.u8 (46 : Int)], [AV.int IntKind.u8 (48 : Int)], [AV.int IntKind.u8 (13 : Int)], [AV.int IntKind.u8 (10 : Int)], [AV.int IntKind.u8 (13 : Int)], [AV.int IntKind.u8 (10 : Int)], [AV.int IntKind.u8 (83 : Int)], [AV.int IntKind.u8 (77 : Int)], [AV.int IntKind.u8 (13 : Int)], [AV.int IntKind.u8 (10 : Int)], [AV.int IntKind.u8 (13 : Int)], [AV.int IntKind.u8 (10 : Int)]].set (rev8_24 es k by').toNat [AV.int IntKind.u8 (bits BinOp.xor IntKind.u8 (intOf (([[AV.int IntKind.u8 (80 : Int)], [AV.int IntKind.u8 (82 : Int)], [AV.int IntKind.u8 (73 : Int)], [AV.int IntKind.u8 (32 : Int)], [AV.int IntKind.u8 (42 : Int)], [AV.int IntKind.u8 (32 : Int)], [AV.int IntKind.u8 (72 : Int)], [AV.int IntKind.u8 (84 : Int)], [AV.int IntKind.u8 (84 : Int)], [AV.int IntKind.u8 (80 : Int)], [AV.int IntKind.u8 (47 : Int)], [AV.int IntKind.u8 (50 : Int)], [AV.int IntKind.u8 (46 : Int)], [AV.int IntKind.u8 (48 : Int)], [AV.int IntKind.u8 (13 : Int)], [AV.int IntKind.u8 (10 : Int)], [AV.int IntKind.u8 (13 : Int)], [AV.int IntKind.u8 (10 : Int)], [AV.int IntKind.u8 (83 : Int)], [AV.int IntKind.u8 (77 : Int)], [AV.int IntKind.u8 (13 : Int)], [AV.int IntKind.u8 (10 : Int)], [AV.int IntKind.u8 (13 : Int)], [AV.int IntKind.u8 (10 : Int)]].getD (rev8_24 es k by').toNat []).getD (0 : Nat) AV.junk)) (IntKind.u8.wrap ((1 : Int) + by'.tmod (255 : Int))))]
noncomputable def rev8_26 (es : List (List AV)) (k : Int) (by' : Int) : Int := vev19_0 (0 : Int) (ByteArray.mk #[]).data.toList false (rev8_25 es k by')
noncomputable def rev8_27 (es : List (List AV)) (k : Int) (by' : Int) : Int := (↑(vev19_3 (0 : Int) (ByteArray.mk #[]).data.toList false (rev8_25 es k by')).length : Int)
noncomputable def rev8_28 (es : List (List AV)) (k : Int) (by' : Int) : Int := vev19_4 (0 : Int) (ByteArray.mk #[]).data.toList false (rev8_25 es k by')
noncomputable def vev8_0 (es : List (List AV)) (k : Int) (by' : Int) : Bool := bif decide ((↑es.length : Int) > (12 : Int)) then true else bif bif bif decide (vev19_4 (0 : Int) (ByteArray.mk #[]).data.toList false [[AV.int IntKind.u8 (80 : Int)], [AV.int IntKind.u8 (82 : Int)], [AV.int IntKind.u8 (73 : Int)], [AV.int IntKind.u8 (32 : Int)], [AV.int IntKind.u8 (42 : Int)], [AV.int IntKind.u8 (32 : Int)], [AV.int IntKind.u8 (72 : Int)], [AV.int IntKind.u8 (84 : Int)], [AV.int IntKind.u8 (84 : Int)], [AV.int IntKind.u8 (80 : Int)], [AV.int IntKind.u8 (47 : Int)], [AV.int IntKind.u8 (50 : Int)], [AV.int IntKind.u8 (46 : Int)], [AV.int IntKind.u8 (48 : Int)], [AV.int IntKind.u8 (13 : Int)], [AV.int IntKind.u8 (10 : Int)], [AV.int IntKind.u8 (13 : Int)], [AV.int IntKind.u8 (10 : Int)], [AV.int IntKind.u8 (83 : Int)], [AV.int IntKind.u8 (77 : Int)], [AV.int IntKind.u8 (13 : Int)], [AV.int IntKind.u8 (10 : Int)], [AV.int IntKind.u8 (13 : Int)], [AV.int IntKind.u8 (10 : Int)]] = (0 : Int)) then false else true then true else bif decide ((↑(vev19_3 (0 : Int) (ByteArray.mk #[]).data.toList false [[AV.int IntKind.u8 (80 : Int)], [AV.int IntKind.u8 (82 : Int)], [AV.int IntKind.u8 (73 : Int)], [AV.int IntKind.u8 (32 : Int)], [AV.int IntKind.u8 (42 : Int)], [AV.int IntKind.u8 (32 : Int)], [AV.int IntKind.u8 (72 : Int)], [AV.int IntKind.u8 (84 : Int)], [AV.int IntKind.u8 (84 : Int)], [AV.int IntKind.u8 (80 : Int)], [AV.int IntKind.u8 (47 : Int)], [AV.int IntKind.u8 (50 : Int)], [AV.int IntKind.u8 (46 : Int)], [AV.int IntKind.u8 (48 : Int)], [AV.int IntKind.u8 (13 : Int)], [AV.int IntKind.u8 (10 : Int)], [AV.int IntKind.u8 (13 : Int)], [AV.int IntKind.u8 (10 : Int)], [AV.int IntKind.u8 (83 : Int)], [AV.int IntKind.u8 (77 : Int)], [AV.int IntKind.u8 (13 : Int)], [AV.int IntKind.u8 (10 : Int)], [AV.int IntKind.u8 (13 : Int)], [AV.int IntKind.u8 (10 : Int)]]).length : Int) = (0 : Int)) then false else true then false else bif bif decide (rev8_1 es k by' < (↑es.length : Int)) then bif bif decide ((0 : Int) ≤ rev8_1 es k by') then decide (rev8_1 es k by' < (↑es.length : Int)) else false then bif decide (rev8_4 es k by' > (60 : Int)) then true else bif bif decide (rev8_8 es k by' = (0 : Int)) then false else true then true else bif vev19_5 (rev8_2 es k by') (rev8_3 es k by') (rev8_0 es k by').snd.snd.snd (rev8_9 es k by') then bif decide (rev8_4 es k by' > (0 : Int)) then bif bif decide (rev8_10 es k by' = (0 : Int)) then false else true then true else bif vev25_1 (rev8_11 es k by') (rev8_12 es k by') (vev19_2 (rev8_2 es k by') (rev8_3 es k by') (rev8_0 es k by').snd.snd.snd (rev8_9 es k by')) then bif bif decide (rev8_13 es k by' = rev8_4 es k by') then false else true then true else bif bif decide (rev8_14 es k by' = (0 : Int)) then false else true then true else bif vev25_1 (rev8_2 es k by') (rev8_3 es k by') (rev8_0 es k by').snd.snd.snd then bif bif decide (rev8_15 es k by' = (9 : Int)) then false else true then true else bif decide ((rev8_16 es k by').length ≤ (4611686018427387904 : Nat)) then bif vev19_5 (rev8_11 es k by') (rev8_12 es k by') (vev19_2 (rev8_2 es k by') (rev8_3 es k by') (rev8_0 es k by').snd.snd.snd (rev8_9 es k by')) (rev8_17 es k by') then bif bif decide (((0 : Nat) + (rn8_7_6 es k by' (rev8_1 es k by') (rev8_2 es k by') (rev8_3 es k by') (rev8_0 es k by').snd.snd.snd).length) * (40 : Nat) ≤ (140737488355328 : Nat)) then decide ((0 : Nat) + (rn8_7_6 es k by' (rev8_1 es k by') (rev8_2 es k by') (rev8_3 es k by') (rev8_0 es k by').snd.snd.snd).length ≤ (9223372036854775807 : Nat)) else false then bif bif decide (((rn8_7_10 es k by' (rev8_1 es k by') (rev8_2 es k by') (rev8_3 es k by') (rev8_0 es k by').snd.snd.snd).length + (rn8_7_11 es k by' (rev8_1 es k by') (rev8_2 es k by') (rev8_3 es k by') (rev8_0 es k by').snd.snd.snd).length) * (40 : Nat) ≤ (140737488355328 : Nat)) then decide ((rn8_7_10 es k by' (rev8_1 es k by') (rev8_2 es k by') (rev8_3 es k by') (rev8_0 es k by').snd.snd.snd).length + (rn8_7_11 es k by' (rev8_1 es k by') (rev8_2 es k by') (rev8_3 es k by') (rev8_0 es k by').snd.snd.snd).length ≤ (9223372036854775807 : Nat)) else false then bif bif bif decide (rev8_18 es k by' = (0 : Int)) then false else true then true else bif bif decide (rev8_19 es k by' = (1 : Int)) then false else true then true else bif decide ((0 : Int) < rev8_19 es k by') then bif bif bif decide (rev8_20 es k by' = rev8_4 es k by') then bif decide (rev8_21 es k by' = rev8_5 es k by') then bif decide (rev8_22 es k by' = rev8_6 es k by') then decide (rev8_23 es k by' = rev8_7 es k by') else false else false else false then false else true then true else bif decide ((0 : Int) < rev8_19 es k by') then bif decide ((0 : Int) ≤ rev8_1 es k by') then decide (rev8_1 es k by' < (↑es.length : Int)) else false else false else false then bif bif decide (rev8_18 es k by' = (0 : Int)) then false else true then true else bif bif decide (rev8_19 es k by' = (1 : Int)) then false else true then true else bif decide ((0 : Int) < rev8_19 es k by') then bif bif bif decide (rev8_20 es k by' = rev8_4 es k by') then bif decide (rev8_21 es k by' = rev8_5 es k by') then bif decide (rev8_22 es k by' = rev8_6 es k by') then decide (rev8_23 es k by' = rev8_7 es k by') else false else false else false then false else true then true else bif decide ((0 : Int) < rev8_19 es k by') then bif bif decide ((0 : Int) ≤ rev8_1 es k by') then decide (rev8_1 es k by' < (↑es.length : Int)) else false then bif (List.brecOn.go (motive := fun x => List UInt8 → Bool) (strOf (((rn8_7_12 es k by' (rev8_1 es k by') (rev8_2 es k by') (rev8_3 es k by') (rev8_0 es k by').snd.snd.snd).getD (Int.toNat (0 : Int)) []).getD ((0 : Nat) + (1 : Nat) + (1 : Nat) + (1 : Nat) + (1 : Nat)) AV.junk)) List.beq._f).1 (rev8_16 es k by') then false else true else false else false else false else false else false else false else false else false else false else false else bif bif decide (rev8_14 es k by' = (0 : Int)) then false else true then true else bif vev25_1 (rev8_2 es k by') (rev8_3 es k by') (rev8_0 es k by').snd.snd.snd then bif bif decide (rev8_15 es k by' = (9 : Int)) then false else true then true else bif decide ((rev8_16 es k by').length ≤ (4611686018427387904 : Nat)) then bif vev19_5 (rev8_11 es k by') (rev8_12 es k by') (vev19_2 (rev8_2 es k by') (rev8_3 es k by') (rev8_0 es k by').snd.snd.snd (rev8_9 es k by')) (rev8_17 es k by') then bif bif decide (((0 : Nat) + (rn8_7_6 es k by' (rev8_1 es k by') (rev8_2 es k by') (rev8_3 es k by') (rev8_0 es k by').snd.snd.snd).length) * (40 : Nat) ≤ (140737488355328 : Nat)) then decide ((0 : Nat) + (rn8_7_6 es k by' (rev8_1 es k by') (rev8_2 es k by') (rev8_3 es k by') (rev8_0 es k by').snd.snd.snd).length ≤ (9223372036854775807 : Nat)) else false then bif bif decide (((rn8_7_10 es k by' (rev8_1 es k by') (rev8_2 es k by') (rev8_3 es k by') (rev8_0 es k by').snd.snd.snd).length + (rn8_7_11 es k by' (rev8_1 es k by') (rev8_2 es k by') (rev8_3 es k by') (rev8_0 es k by').snd.snd.snd).length) * (40 : Nat) ≤ (140737488355328 : Nat)) then decide ((rn8_7_10 es k by' (rev8_1 es k by') (rev8_2 es k by') (rev8_3 es k by') (rev8_0 es k by').snd.snd.snd).length + (rn8_7_11 es k by' (rev8_1 es k by') (rev8_2 es k by') (rev8_3 es k by') (rev8_0 es k by').snd.snd.snd).length ≤ (9223372036854775807 : Nat)) else false then bif bif bif decide (rev8_18 es k by' = (0 : Int)) then false else true then true else bif bif decide (rev8_19 es k by' = (1 : Int)) then false else true then true else bif decide ((0 : Int) < rev8_19 es k by') then bif bif bif decide (rev8_20 es k by' = rev8_4 es k by') then bif decide (rev8_21 es k by' = rev8_5 es k by') then bif decide (rev8_22 es k by' = rev8_6 es k by') then decide (rev8_23 es k by' = rev8_7 es k by') else false else false else false then false else true then true else bif decide ((0 : Int) < rev8_19 es k by') then bif decide ((0 : Int) ≤ rev8_1 es k by') then decide (rev8_1 es k by' < (↑es.length : Int)) else false else false else false then bif bif decide (rev8_18 es k by' = (0 : Int)) then false else true then true else bif bif decide (rev8_19 es k by' = (1 : Int)) then false else true then true else bif decide ((0 : Int) < rev8_19 es k by') then bif bif bif decide (rev8_20 es k by' = rev8_4 es k by') then bif decide (rev8_21 es k by' = rev8_5 es k by') then bif decide (rev8_22 es k by' = rev8_6 es k by') then decide (rev8_23 es k by' = rev8_7 es k by') else false else false else false then false else true then true else bif decide ((0 : Int) < rev8_19 es k by') then bif bif decide ((0 : Int) ≤ rev8_1 es k by') then decide (rev8_1 es k by' < (↑es.length : Int)) else false then bif (List.brecOn.go (motive := fun x => List UInt8 → Bool) (strOf (((rn8_7_12 es k by' (rev8_1 es k by') (rev8_2 es k by') (rev8_3 es k by') (rev8_0 es k by').snd.snd.snd).getD (Int.toNat (0 : Int)) []).getD ((0 : Nat) + (1 : Nat) + (1 : Nat) + (1 : Nat) + (1 : Nat)) AV.junk)) List.beq._f).1 (rev8_16 es k by') then false else true else false else false else false else false else false else false else false else false else false else false else false else false then xv8_7_0_0 es k by' (rev8_1 es k by') (rev8_2 es k by') (rev8_3 es k by') (rev8_0 es k by').snd.snd.snd else bif bif decide (rev8_26 es k by' = (0 : Int)) then bif (List.brecOn.go (motive := fun x => List UInt8 → Bool) (vev19_1 (0 : Int) (ByteArray.mk #[]).data.toList false (rev8_25 es k by')) List.beq._f).1 (ByteArray.mk #[]).data.toList then bif decide (vev19_2 (0 : Int) (ByteArray.mk #[]).data.toList false (rev8_25 es k by') = true) then true else false else false else false then bif decide (rev8_27 es k by' = (0 : Int)) then bif decide (rev8_28 es k by' = (1 : Int)) then bif true then true else false else false else false else false
noncomputable def vev8_1 (es : List (List AV)) (k : Int) (by' : Int) : Bool := bif decide ((↑es.length : Int) > (12 : Int)) then true else bif vev19_5 (0 : Int) (ByteArray.mk #[]).data.toList false [[AV.int IntKind.u8 (80 : Int)], [AV.int IntKind.u8 (82 : Int)], [AV.int IntKind.u8 (73 : Int)], [AV.int IntKind.u8 (32 : Int)], [AV.int IntKind.u8 (42 : Int)], [AV.int IntKind.u8 (32 : Int)], [AV.int IntKind.u8 (72 : Int)], [AV.int IntKind.u8 (84 : Int)], [AV.int IntKind.u8 (84 : Int)], [AV.int IntKind.u8 (80 : Int)], [AV.int IntKind.u8 (47 : Int)], [AV.int IntKind.u8 (50 : Int)], [AV.int IntKind.u8 (46 : Int)], [AV.int IntKind.u8 (48 : Int)], [AV.int IntKind.u8 (13 : Int)], [AV.int IntKind.u8 (10 : Int)], [AV.int IntKind.u8 (13 : Int)], [AV.int IntKind.u8 (10 : Int)], [AV.int IntKind.u8 (83 : Int)], [AV.int IntKind.u8 (77 : Int)], [AV.int IntKind.u8 (13 : Int)], [AV.int IntKind.u8 (10 : Int)], [AV.int IntKind.u8 (13 : Int)], [AV.int IntKind.u8 (10 : Int)]] then bif bif bif decide (vev19_4 (0 : Int) (ByteArray.mk #[]).data.toList false [[AV.int IntKind.u8 (80 : Int)], [AV.int IntKind.u8 (82 : Int)], [AV.int IntKind.u8 (73 : Int)], [AV.int IntKind.u8 (32 : Int)], [AV.int IntKind.u8 (42 : Int)], [AV.int IntKind.u8 (32 : Int)], [AV.int IntKind.u8 (72 : Int)], [AV.int IntKind.u8 (84 : Int)], [AV.int IntKind.u8 (84 : Int)], [AV.int IntKind.u8 (80 : Int)], [AV.int IntKind.u8 (47 : Int)], [AV.int IntKind.u8 (50 : Int)], [AV.int IntKind.u8 (46 : Int)], [AV.int IntKind.u8 (48 : Int)], [AV.int IntKind.u8 (13 : Int)], [AV.int IntKind.u8 (10 : Int)], [AV.int IntKind.u8 (13 : Int)], [AV.int IntKind.u8 (10 : Int)], [AV.int IntKind.u8 (83 : Int)], [AV.int IntKind.u8 (77 : Int)], [AV.int IntKind.u8 (13 : Int)], [AV.int IntKind.u8 (10 : Int)], [AV.int IntKind.u8 (13 : Int)], [AV.int IntKind.u8 (10 : Int)]] = (0 : Int)) then false else true then true else bif decide ((↑(vev19_3 (0 : Int) (ByteArray.mk #[]).data.toList false [[AV.int IntKind.u8 (80 : Int)], [AV.int IntKind.u8 (82 : Int)], [AV.int IntKind.u8 (73 : Int)], [AV.int IntKind.u8 (32 : Int)], [AV.int IntKind.u8 (42 : Int)], [AV.int IntKind.u8 (32 : Int)], [AV.int IntKind.u8 (72 : Int)], [AV.int IntKind.u8 (84 : Int)], [AV.int IntKind.u8 (84 : Int)], [AV.int IntKind.u8 (80 : Int)], [AV.int IntKind.u8 (47 : Int)], [AV.int IntKind.u8 (50 : Int)], [AV.int IntKind.u8 (46 : Int)], [AV.int IntKind.u8 (48 : Int)], [AV.int IntKind.u8 (13 : Int)], [AV.int IntKind.u8 (10 : Int)], [AV.int IntKind.u8 (13 : Int)], [AV.int IntKind.u8 (10 : Int)], [AV.int IntKind.u8 (83 : Int)], [AV.int IntKind.u8 (77 : Int)], [AV.int IntKind.u8 (13 : Int)], [AV.int IntKind.u8 (10 : Int)], [AV.int IntKind.u8 (13 : Int)], [AV.int IntKind.u8 (10 : Int)]]).length : Int) = (0 : Int)) then false else true then true else bif (spI g8_7 n8_7 y8_7 z8_7 d8_7 ((es, k, by'), (0 : Int), vev19_0 (0 : Int) (ByteArray.mk #[]).data.toList false [[AV.int IntKind.u8 (80 : Int)], [AV.int IntKind.u8 (82 : Int)], [AV.int IntKind.u8 (73 : Int)], [AV.int IntKind.u8 (32 : Int)], [AV.int IntKind.u8 (42 : Int)], [AV.int IntKind.u8 (32 : Int)], [AV.int IntKind.u8 (72 : Int)], [AV.int IntKind.u8 (84 : Int)], [AV.int IntKind.u8 (84 : Int)], [AV.int IntKind.u8 (80 : Int)], [AV.int IntKind.u8 (47 : Int)], [AV.int IntKind.u8 (50 : Int)], [AV.int IntKind.u8 (46 : Int)], [AV.int IntKind.u8 (48 : Int)], [AV.int IntKind.u8 (13 : Int)], [AV.int IntKind.u8 (10 : Int)], [AV.int IntKind.u8 (13 : Int)], [AV.int IntKind.u8 (10 : Int)], [AV.int IntKind.u8 (83 : Int)], [AV.int IntKind.u8 (77 : Int)], [AV.int IntKind.u8 (13 : Int)], [AV.int IntKind.u8 (10 : Int)], [AV.int IntKind.u8 (13 : Int)], [AV.int IntKind.u8 (10 : Int)]], vev19_1 (0 : Int) (ByteArray.mk #[]).data.toList false [[AV.int IntKind.u8 (80 : Int)], [AV.int IntKind.u8 (82 : Int)], [AV.int IntKind.u8 (73 : Int)], [AV.int IntKind.u8 (32 : Int)], [AV.int IntKind.u8 (42 : Int)], [AV.int IntKind.u8 (32 : Int)], [AV.int IntKind.u8 (72 : Int)], [AV.int IntKind.u8 (84 : Int)], [AV.int IntKind.u8 (84 : Int)], [AV.int IntKind.u8 (80 : Int)], [AV.int IntKind.u8 (47 : Int)], [AV.int IntKind.u8 (50 : Int)], [AV.int IntKind.u8 (46 : Int)], [AV.int IntKind.u8 (48 : Int)], [AV.int IntKind.u8 (13 : Int)], [AV.int IntKind.u8 (10 : Int)], [AV.int IntKind.u8 (13 : Int)], [AV.int IntKind.u8 (10 : Int)], [AV.int IntKind.u8 (83 : Int)], [AV.int IntKind.u8 (77 : Int)], [AV.int IntKind.u8 (13 : Int)], [AV.int IntKind.u8 (10 : Int)], [AV.int IntKind.u8 (13 : Int)], [AV.int IntKind.u8 (10 : Int)]], vev19_2 (0 : Int) (ByteArray.mk #[]).data.toList false [[AV.int IntKind.u8 (80 : Int)], [AV.int IntKind.u8 (82 : Int)], [AV.int IntKind.u8 (73 : Int)], [AV.int IntKind.u8 (32 : Int)], [AV.int IntKind.u8 (42 : Int)], [AV.int IntKind.u8 (32 : Int)], [AV.int IntKind.u8 (72 : Int)], [AV.int IntKind.u8 (84 : Int)], [AV.int IntKind.u8 (84 : Int)], [AV.int IntKind.u8 (80 : Int)], [AV.int IntKind.u8 (47 : Int)], [AV.int IntKind.u8 (50 : Int)], [AV.int IntKind.u8 (46 : Int)], [AV.int IntKind.u8 (48 : Int)], [AV.int IntKind.u8 (13 : Int)], [AV.int IntKind.u8 (10 : Int)], [AV.int IntKind.u8 (13 : Int)], [AV.int IntKind.u8 (10 : Int)], [AV.int IntKind.u8 (83 : Int)], [AV.int IntKind.u8 (77 : Int)], [AV.int IntKind.u8 (13 : Int)], [AV.int IntKind.u8 (10 : Int)], [AV.int IntKind.u8 (13 : Int)], [AV.int IntKind.u8 (10 : Int)]])).fst then bif bif decide (rev8_1 es k by' < (↑es.length : Int)) then bif bif decide ((0 : Int) ≤ rev8_1 es k by') then decide (rev8_1 es k by' < (↑es.length : Int)) else false then bif decide (rev8_4 es k by' > (60 : Int)) then true else bif bif decide (rev8_8 es k by' = (0 : Int)) then false else true then true else bif vev19_5 (rev8_2 es k by') (rev8_3 es k by') (rev8_0 es k by').snd.snd.snd (rev8_9 es k by') then bif decide (rev8_4 es k by' > (0 : Int)) then bif bif decide (rev8_10 es k by' = (0 : Int)) then false else true then true else bif vev25_1 (rev8_11 es k by') (rev8_12 es k by') (vev19_2 (rev8_2 es k by') (rev8_3 es k by') (rev8_0 es k by').snd.snd.snd (rev8_9 es k by')) then bif bif decide (rev8_13 es k by' = rev8_4 es k by') then false else true then true else bif bif decide (rev8_14 es k by' = (0 : Int)) then false else true then true else bif vev25_1 (rev8_2 es k by') (rev8_3 es k by') (rev8_0 es k by').snd.snd.snd then bif bif decide (rev8_15 es k by' = (9 : Int)) then false else true then true else bif decide ((rev8_16 es k by').length ≤ (4611686018427387904 : Nat)) then bif vev19_5 (rev8_11 es k by') (rev8_12 es k by') (vev19_2 (rev8_2 es k by') (rev8_3 es k by') (rev8_0 es k by').snd.snd.snd (rev8_9 es k by')) (rev8_17 es k by') then bif bif decide (((0 : Nat) + (rn8_7_6 es k by' (rev8_1 es k by') (rev8_2 es k by') (rev8_3 es k by') (rev8_0 es k by').snd.snd.snd).length) * (40 : Nat) ≤ (140737488355328 : Nat)) then decide ((0 : Nat) + (rn8_7_6 es k by' (rev8_1 es k by') (rev8_2 es k by') (rev8_3 es k by') (rev8_0 es k by').snd.snd.snd).length ≤ (9223372036854775807 : Nat)) else false then bif bif decide (((rn8_7_10 es k by' (rev8_1 es k by') (rev8_2 es k by') (rev8_3 es k by') (rev8_0 es k by').snd.snd.snd).length + (rn8_7_11 es k by' (rev8_1 es k by') (rev8_2 es k by') (rev8_3 es k by') (rev8_0 es k by').snd.snd.snd).length) * (40 : Nat) ≤ (140737488355328 : Nat)) then decide ((rn8_7_10 es k by' (rev8_1 es k by') (rev8_2 es k by') (rev8_3 es k by') (rev8_0 es k by').snd.snd.snd).length + (rn8_7_11 es k by' (rev8_1 es k by') (rev8_2 es k by') (rev8_3 es k by') (rev8_0 es k by').snd.snd.snd).length ≤ (9223372036854775807 : Nat)) else false then bif bif bif decide (rev8_18 es k by' = (0 : Int)) then false else true then true else bif bif decide (rev8_19 es k by' = (1 : Int)) then false else true then true else bif decide ((0 : Int) < rev8_19 es k by') then bif bif bif decide (rev8_20 es k by' = rev8_4 es k by') then bif decide (rev8_21 es k by' = rev8_5 es k by') then bif decide (rev8_22 es k by' = rev8_6 es k by') then decide (rev8_23 es k by' = rev8_7 es k by') else false else false else false then false else true then true else bif decide ((0 : Int) < rev8_19 es k by') then bif decide ((0 : Int) ≤ rev8_1 es k by') then decide (rev8_1 es k by' < (↑es.length : Int)) else false else false else false then bif bif decide (rev8_18 es k by' = (0 : Int)) then false else true then true else bif bif decide (rev8_19 es k by' = (1 : Int)) then false else true then true else bif decide ((0 : Int) < rev8_19 es k by') then bif bif bif decide (rev8_20 es k by' = rev8_4 es k by') then bif decide (rev8_21 es k by' = rev8_5 es k by') then bif decide (rev8_22 es k by' = rev8_6 es k by') then decide (rev8_23 es k by' = rev8_7 es k by') else false else false else false then false else true then true else bif decide ((0 : Int) < rev8_19 es k by') then bif bif decide ((0 : Int) ≤ rev8_1 es k by') then decide (rev8_1 es k by' < (↑es.length : Int)) else false then bif (List.brecOn.go (motive := fun x => List UInt8 → Bool) (strOf (((rn8_7_12 es k by' (rev8_1 es k by') (rev8_2 es k by') (rev8_3 es k by') (rev8_0 es k by').snd.snd.snd).getD (Int.toNat (0 : Int)) []).getD ((0 : Nat) + (1 : Nat) + (1 : Nat) + (1 : Nat) + (1 : Nat)) AV.junk)) List.beq._f).1 (rev8_16 es k by') then false else true else false else false else false else false else false else false else false else false else false else false else bif bif decide (rev8_14 es k by' = (0 : Int)) then false else true then true else bif vev25_1 (rev8_2 es k by') (rev8_3 es k by') (rev8_0 es k by').snd.snd.snd then bif bif decide (rev8_15 es k by' = (9 : Int)) then false else true then true else bif decide ((rev8_16 es k by').length ≤ (4611686018427387904 : Nat)) then bif vev19_5 (rev8_11 es k by') (rev8_12 es k by') (vev19_2 (rev8_2 es k by') (rev8_3 es k by') (rev8_0 es k by').snd.snd.snd (rev8_9 es k by')) (rev8_17 es k by') then bif bif decide (((0 : Nat) + (rn8_7_6 es k by' (rev8_1 es k by') (rev8_2 es k by') (rev8_3 es k by') (rev8_0 es k by').snd.snd.snd).length) * (40 : Nat) ≤ (140737488355328 : Nat)) then decide ((0 : Nat) + (rn8_7_6 es k by' (rev8_1 es k by') (rev8_2 es k by') (rev8_3 es k by') (rev8_0 es k by').snd.snd.snd).length ≤ (9223372036854775807 : Nat)) else false then bif bif decide (((rn8_7_10 es k by' (rev8_1 es k by') (rev8_2 es k by') (rev8_3 es k by') (rev8_0 es k by').snd.snd.snd).length + (rn8_7_11 es k by' (rev8_1 es k by') (rev8_2 es k by') (rev8_3 es k by') (rev8_0 es k by').snd.snd.snd).length) * (40 : Nat) ≤ (140737488355328 : Nat)) then decide ((rn8_7_10 es k by' (rev8_1 es k by') (rev8_2 es k by') (rev8_3 es k by') (rev8_0 es k by').snd.snd.snd).length + (rn8_7_11 es k by' (rev8_1 es k by') (rev8_2 es k by') (rev8_3 es k by') (rev8_0 es k by').snd.snd.snd).length ≤ (9223372036854775807 : Nat)) else false then bif bif bif decide (rev8_18 es k by' = (0 : Int)) then false else true then true else bif bif decide (rev8_19 es k by' = (1 : Int)) then false else true then true else bif decide ((0 : Int) < rev8_19 es k by') then bif bif bif decide (rev8_20 es k by' = rev8_4 es k by') then bif decide (rev8_21 es k by' = rev8_5 es k by') then bif decide (rev8_22 es k by' = rev8_6 es k by') then decide (rev8_23 es k by' = rev8_7 es k by') else false else false else false then false else true then true else bif decide ((0 : Int) < rev8_19 es k by') then bif decide ((0 : Int) ≤ rev8_1 es k by') then decide (rev8_1 es k by' < (↑es.length : Int)) else false else false else false then bif bif decide (rev8_18 es k by' = (0 : Int)) then false else true then true else bif bif decide (rev8_19 es k by' = (1 : Int)) then false else true then true else bif decide ((0 : Int) < rev8_19 es k by') then bif bif bif decide (rev8_20 es k by' = rev8_4 es k by') then bif decide (rev8_21 es k by' = rev8_5 es k by') then bif decide (rev8_22 es k by' = rev8_6 es k by') then decide (rev8_23 es k by' = rev8_7 es k by') else false else false else false then false else true then true else bif decide ((0 : Int) < rev8_19 es k by') then bif bif decide ((0 : Int) ≤ rev8_1 es k by') then decide (rev8_1 es k by' < (↑es.length : Int)) else false then bif (List.brecOn.go (motive := fun x => List UInt8 → Bool) (strOf (((rn8_7_12 es k by' (rev8_1 es k by') (rev8_2 es k by') (rev8_3 es k by') (rev8_0 es k by').snd.snd.snd).getD (Int.toNat (0 : Int)) []).getD ((0 : Nat) + (1 : Nat) + (1 : Nat) + (1 : Nat) + (1 : Nat)) AV.junk)) List.beq._f).1 (rev8_16 es k by') then false else true else false else false else false else false else false else false else false else false else false else false else false else false then true else bif bif decide ((0 : Int) ≤ rev8_24 es k by') then decide (rev8_24 es k by' < (↑[[AV.int IntKind.u8 (80 : Int)], [AV.int IntKind.u8 (82 : Int)], [AV.int IntKind.u8 (73 : Int)], [AV.int IntKind.u8 (32 : Int)], [AV.int IntKind.u8 (42 : Int)], [AV.int IntKind.u8 (32 : Int)], [AV.int IntKind.u8 (72 : Int)], [AV.int IntKind.u8 (84 : Int)], [AV.int IntKind.u8 (84 : Int)], [AV.int IntKind.u8 (80 : Int)], [AV.int IntKind.u8 (47 : Int)], [AV.int IntKind.u8 (50 : Int)], [AV.int IntKind.u8 (46 : Int)], [AV.int IntKind.u8 (48 : Int)], [AV.int IntKind.u8 (13 : Int)], [AV.int IntKind.u8 (10 : Int)], [AV.int IntKind.u8 (13 : Int)], [AV.int IntKind.u8 (10 : Int)], [AV.int IntKind.u8 (83 : Int)], [AV.int IntKind.u8 (77 : Int)], [AV.int IntKind.u8 (13 : Int)], [AV.int IntKind.u8 (10 : Int)], [AV.int IntKind.u8 (13 : Int)], [AV.int IntKind.u8 (10 : Int)]].length : Int)) else false then bif vev19_5 (0 : Int) (ByteArray.mk #[]).data.toList false (rev8_25 es k by') then true else false else false else false else false
theorem ev8 (es : List (List AV)) (k : Int) (by' : Int) : evFun (cfg Try.prog tab 100000 (gk k9 30) lsp8 8 ([] : List Blk).length Try.f8.ntmps) Try.f8 [.sl .imm [.int .i64, .int .u8, .int .u8, .int .i64, .str] es, .int .u8 k, .int .u8 by'] [] = bif vev8_1 es k by' then some (AV.bool (vev8_0 es k by'), []) else none := by
  have h : evFun (cfg Try.prog tab 100000 (gk k9 30) lsp8 8 ([] : List Blk).length Try.f8.ntmps) Try.f8 [.sl .imm [.int .i64, .int .u8, .int .u8, .int .i64, .str] es, .int .u8 k, .int .u8 by'] [] = bif decide ((↑es.length : Int) > (12 : Int)) then some (AV.bool true, []) else bif vev19_5 (0 : Int) (ByteArray.mk #[]).data.toList false [[AV.int IntKind.u8 (80 : Int)], [AV.int IntKind.u8 (82 : Int)], [AV.int IntKind.u8 (73 : Int)], [AV.int IntKind.u8 (32 : Int)], [AV.int IntKind.u8 (42 : Int)], [AV.int IntKind.u8 (32 : Int)], [AV.int IntKind.u8 (72 : Int)], [AV.int IntKind.u8 (84 : Int)], [AV.int IntKind.u8 (84 : Int)], [AV.int IntKind.u8 (80 : Int)], [AV.int IntKind.u8 (47 : Int)], [AV.int IntKind.u8 (50 : Int)], [AV.int IntKind.u8 (46 : Int)], [AV.int IntKind.u8 (48 : Int)], [AV.int IntKind.u8 (13 : Int)], [AV.int IntKind.u8 (10 : Int)], [AV.int IntKind.u8 (13 : Int)], [AV.int IntKind.u8 (10 : Int)], [AV.int IntKind.u8 (83 : Int)], [AV.int IntKind.u8 (77 : Int)], [AV.int IntKind.u8 (13 : Int)], [AV.int IntKind.u8 (10 : Int)], [AV.int IntKind.u8 (13 : Int)], [AV.int IntKind.u8 (10 : Int)]] then bif bif bif decide (vev19_4 (0 : Int) (ByteArray.mk #[]).data.toList false [[AV.int IntKind.u8 (80 : Int)], [AV.int IntKind.u8 (82 : Int)], [AV.int IntKind.u8 (73 : Int)], [AV.int IntKind.u8 (32 : Int)], [AV.int IntKind.u8 (42 : Int)], [AV.int IntKind.u8 (32 : Int)], [AV.int IntKind.u8 (72 : Int)], [AV.int IntKind.u8 (84 : Int)], [AV.int IntKind.u8 (84 : Int)], [AV.int IntKind.u8 (80 : Int)], [AV.int IntKind.u8 (47 : Int)], [AV.int IntKind.u8 (50 : Int)], [AV.int IntKind.u8 (46 : Int)], [AV.int IntKind.u8 (48 : Int)], [AV.int IntKind.u8 (13 : Int)], [AV.int IntKind.u8 (10 : Int)], [AV.int IntKind.u8 (13 : Int)], [AV.int IntKind.u8 (10 : Int)], [AV.int IntKind.u8 (83 : Int)], [AV.int IntKind.u8 (77 : Int)], [AV.int IntKind.u8 (13 : Int)], [AV.int IntKind.u8 (10 : Int)], [AV.int IntKind.u8 (13 : Int)], [AV.int IntKind.u8 (10 : Int)]] = (0 : Int)) then false else true then true else true then bif bif bif decide (vev19_4 (0 : Int) (ByteArray.mk #[]).data.toList false [[AV.int IntKind.u8 (80 : Int)], [AV.int IntKind.u8 (82 : Int)], [AV.int IntKind.u8 (73 : Int)], [AV.int IntKind.u8 (32 : Int)], [AV.int IntKind.u8 (42 : Int)], [AV.int IntKind.u8 (32 : Int)], [AV.int IntKind.u8 (72 : Int)], [AV.int IntKind.u8 (84 : Int)], [AV.int IntKind.u8 (84 : Int)], [AV.int IntKind.u8 (80 : Int)], [AV.int IntKind.u8 (47 : Int)], [AV.int IntKind.u8 (50 : Int)], [AV.int IntKind.u8 (46 : Int)], [AV.int IntKind.u8 (48 : Int)], [AV.int IntKind.u8 (13 : Int)], [AV.int IntKind.u8 (10 : Int)], [AV.int IntKind.u8 (13 : Int)], [AV.int IntKind.u8 (10 : Int)], [AV.int IntKind.u8 (83 : Int)], [AV.int IntKind.u8 (77 : Int)], [AV.int IntKind.u8 (13 : Int)], [AV.int IntKind.u8 (10 : Int)], [AV.int IntKind.u8 (13 : Int)], [AV.int IntKind.u8 (10 : Int)]] = (0 : Int)) then false else true then bif true then true else false else bif bif decide ((↑(vev19_3 (0 : Int) (ByteArray.mk #[]).data.toList false [[AV.int IntKind.u8 (80 : Int)], [AV.int IntKind.u8 (82 : Int)], [AV.int IntKind.u8 (73 : Int)], [AV.int IntKind.u8 (32 : Int)], [AV.int IntKind.u8 (42 : Int)], [AV.int IntKind.u8 (32 : Int)], [AV.int IntKind.u8 (72 : Int)], [AV.int IntKind.u8 (84 : Int)], [AV.int IntKind.u8 (84 : Int)], [AV.int IntKind.u8 (80 : Int)], [AV.int IntKind.u8 (47 : Int)], [AV.int IntKind.u8 (50 : Int)], [AV.int IntKind.u8 (46 : Int)], [AV.int IntKind.u8 (48 : Int)], [AV.int IntKind.u8 (13 : Int)], [AV.int IntKind.u8 (10 : Int)], [AV.int IntKind.u8 (13 : Int)], [AV.int IntKind.u8 (10 : Int)], [AV.int IntKind.u8 (83 : Int)], [AV.int IntKind.u8 (77 : Int)], [AV.int IntKind.u8 (13 : Int)], [AV.int IntKind.u8 (10 : Int)], [AV.int IntKind.u8 (13 : Int)], [AV.int IntKind.u8 (10 : Int)]]).length : Int) = (0 : Int)) then false else true then true else false then some (AV.bool false, []) else bif (spI g8_7 n8_7 y8_7 z8_7 d8_7 ((es, k, by'), (0 : Int), vev19_0 (0 : Int) (ByteArray.mk #[]).data.toList false [[AV.int IntKind.u8 (80 : Int)], [AV.int IntKind.u8 (82 : Int)], [AV.int IntKind.u8 (73 : Int)], [AV.int IntKind.u8 (32 : Int)], [AV.int IntKind.u8 (42 : Int)], [AV.int IntKind.u8 (32 : Int)], [AV.int IntKind.u8 (72 : Int)], [AV.int IntKind.u8 (84 : Int)], [AV.int IntKind.u8 (84 : Int)], [AV.int IntKind.u8 (80 : Int)], [AV.int IntKind.u8 (47 : Int)], [AV.int IntKind.u8 (50 : Int)], [AV.int IntKind.u8 (46 : Int)], [AV.int IntKind.u8 (48 : Int)], [AV.int IntKind.u8 (13 : Int)], [AV.int IntKind.u8 (10 : Int)], [AV.int IntKind.u8 (13 : Int)], [AV.int IntKind.u8 (10 : Int)], [AV.int IntKind.u8 (83 : Int)], [AV.int IntKind.u8 (77 : Int)], [AV.int IntKind.u8 (13 : Int)], [AV.int IntKind.u8 (10 : Int)], [AV.int IntKind.u8 (13 : Int)], [AV.int IntKind.u8 (10 : Int)]], vev19_1 (0 : Int) (ByteArray.mk #[]).data.toList false [[AV.int IntKind.u8 (80 : Int)], [AV.int IntKind.u8 (82 : Int)], [AV.int IntKind.u8 (73 : Int)], [AV.int IntKind.u8 (32 : Int)], [AV.int IntKind.u8 (42 : Int)], [AV.int IntKind.u8 (32 : Int)], [AV.int IntKind.u8 (72 : Int)], [AV.int IntKind.u8 (84 : Int)], [AV.int IntKind.u8 (84 : Int)], [AV.int IntKind.u8 (80 : Int)], [AV.int IntKind.u8 (47 : Int)], [AV.int IntKind.u8 (50 : Int)], [AV.int IntKind.u8 (46 : Int)], [AV.int IntKind.u8 (48 : Int)], [AV.int IntKind.u8 (13 : Int)], [AV.int IntKind.u8 (10 : Int)], [AV.int IntKind.u8 (13 : Int)], [AV.int IntKind.u8 (10 : Int)], [AV.int IntKind.u8 (83 : Int)], [AV.int IntKind.u8 (77 : Int)], [AV.int IntKind.u8 (13 : Int)], [AV.int IntKind.u8 (10 : Int)], [AV.int IntKind.u8 (13 : Int)], [AV.int IntKind.u8 (10 : Int)]], vev19_2 (0 : Int) (ByteArray.mk #[]).data.toList false [[AV.int IntKind.u8 (80 : Int)], [AV.int IntKind.u8 (82 : Int)], [AV.int IntKind.u8 (73 : Int)], [AV.int IntKind.u8 (32 : Int)], [AV.int IntKind.u8 (42 : Int)], [AV.int IntKind.u8 (32 : Int)], [AV.int IntKind.u8 (72 : Int)], [AV.int IntKind.u8 (84 : Int)], [AV.int IntKind.u8 (84 : Int)], [AV.int IntKind.u8 (80 : Int)], [AV.int IntKind.u8 (47 : Int)], [AV.int IntKind.u8 (50 : Int)], [AV.int IntKind.u8 (46 : Int)], [AV.int IntKind.u8 (48 : Int)], [AV.int IntKind.u8 (13 : Int)], [AV.int IntKind.u8 (10 : Int)], [AV.int IntKind.u8 (13 : Int)], [AV.int IntKind.u8 (10 : Int)], [AV.int IntKind.u8 (83 : Int)], [AV.int IntKind.u8 (77 : Int)], [AV.int IntKind.u8 (13 : Int)], [AV.int IntKind.u8 (10 : Int)], [AV.int IntKind.u8 (13 : Int)], [AV.int IntKind.u8 (10 : Int)]])).fst then bif bif decide (rev8_1 es k by' < (↑es.length : Int)) then bif bif decide ((0 : Int) ≤ rev8_1 es k by') then decide (rev8_1 es k by' < (↑es.length : Int)) else false then bif decide (rev8_4 es k by' > (60 : Int)) then true else bif bif decide (rev8_8 es k by' = (0 : Int)) then false else true then true else bif vev19_5 (rev8_2 es k by') (rev8_3 es k by') (rev8_0 es k by').snd.snd.snd (rev8_9 es k by') then bif decide (rev8_4 es k by' > (0 : Int)) then bif bif decide (rev8_10 es k by' = (0 : Int)) then false else true then true else bif vev25_1 (rev8_11 es k by') (rev8_12 es k by') (vev19_2 (rev8_2 es k by') (rev8_3 es k by') (rev8_0 es k by').snd.snd.snd (rev8_9 es k by')) then bif bif decide (rev8_13 es k by' = rev8_4 es k by') then false else true then true else bif bif decide (rev8_14 es k by' = (0 : Int)) then false else true then true else bif vev25_1 (rev8_2 es k by') (rev8_3 es k by') (rev8_0 es k by').snd.snd.snd then bif bif decide (rev8_15 es k by' = (9 : Int)) then false else true then true else bif decide ((rev8_16 es k by').length ≤ (4611686018427387904 : Nat)) then bif vev19_5 (rev8_11 es k by') (rev8_12 es k by') (vev19_2 (rev8_2 es k by') (rev8_3 es k by') (rev8_0 es k by').snd.snd.snd (rev8_9 es k by')) (rev8_17 es k by') then bif bif decide (((0 : Nat) + (rn8_7_6 es k by' (rev8_1 es k by') (rev8_2 es k by') (rev8_3 es k by') (rev8_0 es k by').snd.snd.snd).length) * (40 : Nat) ≤ (140737488355328 : Nat)) then decide ((0 : Nat) + (rn8_7_6 es k by' (rev8_1 es k by') (rev8_2 es k by') (rev8_3 es k by') (rev8_0 es k by').snd.snd.snd).length ≤ (9223372036854775807 : Nat)) else false then bif bif decide (((rn8_7_10 es k by' (rev8_1 es k by') (rev8_2 es k by') (rev8_3 es k by') (rev8_0 es k by').snd.snd.snd).length + (rn8_7_11 es k by' (rev8_1 es k by') (rev8_2 es k by') (rev8_3 es k by') (rev8_0 es k by').snd.snd.snd).length) * (40 : Nat) ≤ (140737488355328 : Nat)) then decide ((rn8_7_10 es k by' (rev8_1 es k by') (rev8_2 es k by') (rev8_3 es k by') (rev8_0 es k by').snd.snd.snd).length + (rn8_7_11 es k by' (rev8_1 es k by') (rev8_2 es k by') (rev8_3 es k by') (rev8_0 es k by').snd.snd.snd).length ≤ (9223372036854775807 : Nat)) else false then bif bif bif decide (rev8_18 es k by' = (0 : Int)) then false else true then true else bif bif decide (rev8_19 es k by' = (1 : Int)) then false else true then true else bif decide ((0 : Int) < rev8_19 es k by') then bif bif bif decide (rev8_20 es k by' = rev8_4 es k by') then bif decide (rev8_21 es k by' = rev8_5 es k by') then bif decide (rev8_22 es k by' = rev8_6 es k by') then bif decide (rev8_23 es k by' = rev8_7 es k by') then true else false else false else false else false then false else true then true else bif decide ((0 : Int) < rev8_19 es k by') then bif decide ((0 : Int) ≤ rev8_1 es k by') then decide (rev8_1 es k by' < (↑es.length : Int)) else false else false else false then bif bif decide (rev8_18 es k by' = (0 : Int)) then false else true then true else bif bif decide (rev8_19 es k by' = (1 : Int)) then false else true then true else bif decide ((0 : Int) < rev8_19 es k by') then bif bif bif decide (rev8_20 es k by' = rev8_4 es k by') then bif decide (rev8_21 es k by' = rev8_5 es k by') then bif decide (rev8_22 es k by' = rev8_6 es k by') then bif decide (rev8_23 es k by' = rev8_7 es k by') then true else false else false else false else false then false else true then true else bif decide ((0 : Int) < rev8_19 es k by') then bif bif decide ((0 : Int) ≤ rev8_1 es k by') then decide (rev8_1 es k by' < (↑es.length : Int)) else false then bif (List.brecOn.go (motive := fun x => List UInt8 → Bool) (strOf (((rn8_7_12 es k by' (rev8_1 es k by') (rev8_2 es k by') (rev8_3 es k by') (rev8_0 es k by').snd.snd.snd).getD (Int.toNat (0 : Int)) []).getD ((0 : Nat) + (1 : Nat) + (1 : Nat) + (1 : Nat) + (1 : Nat)) AV.junk)) List.beq._f).1 (rev8_16 es k by') then false else true else false else false else false else false else false else false else false else false else false else false else bif bif decide (rev8_14 es k by' = (0 : Int)) then false else true then true else bif vev25_1 (rev8_2 es k by') (rev8_3 es k by') (rev8_0 es k by').snd.snd.snd then bif bif decide (rev8_15 es k by' = (9 : Int)) then false else true then true else bif decide ((rev8_16 es k by').length ≤ (4611686018427387904 : Nat)) then bif vev19_5 (rev8_11 es k by') (rev8_12 es k by') (vev19_2 (rev8_2 es k by') (rev8_3 es k by') (rev8_0 es k by').snd.snd.snd (rev8_9 es k by')) (rev8_17 es k by') then bif bif decide (((0 : Nat) + (rn8_7_6 es k by' (rev8_1 es k by') (rev8_2 es k by') (rev8_3 es k by') (rev8_0 es k by').snd.snd.snd).length) * (40 : Nat) ≤ (140737488355328 : Nat)) then decide ((0 : Nat) + (rn8_7_6 es k by' (rev8_1 es k by') (rev8_2 es k by') (rev8_3 es k by') (rev8_0 es k by').snd.snd.snd).length ≤ (9223372036854775807 : Nat)) else false then bif bif decide (((rn8_7_10 es k by' (rev8_1 es k by') (rev8_2 es k by') (rev8_3 es k by') (rev8_0 es k by').snd.snd.snd).length + (rn8_7_11 es k by' (rev8_1 es k by') (rev8_2 es k by') (rev8_3 es k by') (rev8_0 es k by').snd.snd.snd).length) * (40 : Nat) ≤ (140737488355328 : Nat)) then decide ((rn8_7_10 es k by' (rev8_1 es k by') (rev8_2 es k by') (rev8_3 es k by') (rev8_0 es k by').snd.snd.snd).length + (rn8_7_11 es k by' (rev8_1 es k by') (rev8_2 es k by') (rev8_3 es k by') (rev8_0 es k by').snd.snd.snd).length ≤ (9223372036854775807 : Nat)) else false then bif bif bif decide (rev8_18 es k by' = (0 : Int)) then false else true then true else bif bif decide (rev8_19 es k by' = (1 : Int)) then false else true then true else bif decide ((0 : Int) < rev8_19 es k by') then bif bif bif decide (rev8_20 es k by' = rev8_4 es k by') then bif decide (rev8_21 es k by' = rev8_5 es k by') then bif decide (rev8_22 es k by' = rev8_6 es k by') then bif decide (rev8_23 es k by' = rev8_7 es k by') then true else false else false else false else false then false else true then true else bif decide ((0 : Int) < rev8_19 es k by') then bif decide ((0 : Int) ≤ rev8_1 es k by') then decide (rev8_1 es k by' < (↑es.length : Int)) else false else false else false then bif bif decide (rev8_18 es k by' = (0 : Int)) then false else true then true else bif bif decide (rev8_19 es k by' = (1 : Int)) then false else true then true else bif decide ((0 : Int) < rev8_19 es k by') then bif bif bif decide (rev8_20 es k by' = rev8_4 es k by') then bif decide (rev8_21 es k by' = rev8_5 es k by') then bif decide (rev8_22 es k by' = rev8_6 es k by') then bif decide (rev8_23 es k by' = rev8_7 es k by') then true else false else false else false else false then false else true then true else bif decide ((0 : Int) < rev8_19 es k by') then bif bif decide ((0 : Int) ≤ rev8_1 es k by') then decide (rev8_1 es k by' < (↑es.length : Int)) else false then bif (List.brecOn.go (motive := fun x => List UInt8 → Bool) (strOf (((rn8_7_12 es k by' (rev8_1 es k by') (rev8_2 es k by') (rev8_3 es k by') (rev8_0 es k by').snd.snd.snd).getD (Int.toNat (0 : Int)) []).getD ((0 : Nat) + (1 : Nat) + (1 : Nat) + (1 : Nat) + (1 : Nat)) AV.junk)) List.beq._f).1 (rev8_16 es k by') then false else true else false else false else false else false else false else false else false else false else false else false else false else false then some (AV.bool (xv8_7_0_0 es k by' (rev8_1 es k by') (rev8_2 es k by') (rev8_3 es k by') (rev8_0 es k by').snd.snd.snd), []) else bif bif decide ((0 : Int) ≤ rev8_24 es k by') then decide (rev8_24 es k by' < (↑[[AV.int IntKind.u8 (80 : Int)], [AV.int IntKind.u8 (82 : Int)], [AV.int IntKind.u8 (73 : Int)], [AV.int IntKind.u8 (32 : Int)], [AV.int IntKind.u8 (42 : Int)], [AV.int IntKind.u8 (32 : Int)], [AV.int IntKind.u8 (72 : Int)], [AV.int IntKind.u8 (84 : Int)], [AV.int IntKind.u8 (84 : Int)], [AV.int IntKind.u8 (80 : Int)], [AV.int IntKind.u8 (47 : Int)], [AV.int IntKind.u8 (50 : Int)], [AV.int IntKind.u8 (46 : Int)], [AV.int IntKind.u8 (48 : Int)], [AV.int IntKind.u8 (13 : Int)], [AV.int IntKind.u8 (10 : Int)], [AV.int IntKind.u8 (13 : Int)], [AV.int IntKind.u8 (10 : Int)], [AV.int IntKind.u8 (83 : Int)], [AV.int IntKind.u8 (77 : Int)], [AV.int IntKind.u8 (13 : Int)], [AV.int IntKind.u8 (10 : Int)], [AV.int IntKind.u8 (13 : Int)], [AV.int IntKind.u8 (10 : Int)]].length : Int)) else false then bif bif decide ((0 : Int) ≤ rev8_24 es k by') then decide (rev8_24 es k by' < (↑[[AV.int IntKind.u8 (80 : Int)], [AV.int IntKind.u8 (82 : Int)], [AV.int IntKind.u8 (73 : Int)], [AV.int IntKind.u8 (32 : Int)], [AV.int IntKind.u8 (42 : Int)], [AV.int IntKind.u8 (32 : Int)], [AV.int IntKind.u8 (72 : Int)], [AV.int IntKind.u8 (84 : Int)], [AV.int IntKind.u8 (84 : Int)], [AV.int IntKind.u8 (80 : Int)], [AV.int IntKind.u8 (47 : Int)], [AV.int IntKind.u8 (50 : Int)], [AV.int IntKind.u8 (46 : Int)], [AV.int IntKind.u8 (48 : Int)], [AV.int IntKind.u8 (13 : Int)], [AV.int IntKind.u8 (10 : Int)], [AV.int IntKind.u8 (13 : Int)], [AV.int IntKind.u8 (10 : Int)], [AV.int IntKind.u8 (83 : Int)], [AV.int IntKind.u8 (77 : Int)], [AV.int IntKind.u8 (13 : Int)], [AV.int IntKind.u8 (10 : Int)], [AV.int IntKind.u8 (13 : Int)], [AV.int IntKind.u8 (10 : Int)]].length : Int)) else false then bif vev19_5 (0 : Int) (ByteArray.mk #[]).data.toList false (rev8_25 es k by') then bif bif bif decide (rev8_26 es k by' = (0 : Int)) then bif (List.brecOn.go (motive := fun x => List UInt8 → Bool) (vev19_1 (0 : Int) (ByteArray.mk #[]).data.toList false (rev8_25 es k by')) List.beq._f).1 (ByteArray.mk #[]).data.toList then bif decide (vev19_2 (0 : Int) (ByteArray.mk #[]).data.toList false (rev8_25 es k by') = true) then true else false else false else false then bif decide (rev8_27 es k by' = (0 : Int)) then bif decide (rev8_28 es k by' = (1 : Int)) then true else true else true else true then some (AV.bool (bif bif decide (rev8_26 es k by' = (0 : Int)) then bif (List.brecOn.go (motive := fun x => List UInt8 → Bool) (vev19_1 (0 : Int) (ByteArray.mk #[]).data.toList false (rev8_25 es k by')) List.beq._f).1 (ByteArray.mk #[]).data.toList then bif decide (vev19_2 (0 : Int) (ByteArray.mk #[]).data.toList false (rev8_25 es k by') = true) then true else false else false else false then bif decide (rev8_27 es k by' = (0 : Int)) then bif decide (rev8_28 es k by' = (1 : Int)) then bif true then true else false else false else false else false), []) else none else none else none else none else none else none else none := by kernel_rfl
  rw [h]
  clear h
  unfold vev8_0 vev8_1
  generalize ((spI g8_7 n8_7 y8_7 z8_7 d8_7 ((es, k, by'), (0 : Int), vev19_0 (0 : Int) (ByteArray.mk #[]).data.toList false [[AV.int IntKind.u8 (80 : Int)], [AV.int IntKind.u8 (82 : Int)], [AV.int IntKind.u8 (73 : Int)], [AV.int IntKind.u8 (32 : Int)], [AV.int IntKind.u8 (42 : Int)], [AV.int IntKind.u8 (32 : Int)], [AV.int IntKind.u8 (72 : Int)], [AV.int IntKind.u8 (84 : Int)], [AV.int IntKind.u8 (84 : Int)], [AV.int IntKind.u8 (80 : Int)], [AV.int IntKind.u8 (47 : Int)], [AV.int IntKind.u8 (50 : Int)], [AV.int IntKind.u8 (46 : Int)], [AV.int IntKind.u8 (48 : Int)], [AV.int IntKind.u8 (13 : Int)], [AV.int IntKind.u8 (10 : Int)], [AV.int IntKind.u8 (13 : Int)], [AV.int IntKind.u8 (10 : Int)], [AV.int IntKind.u8 (83 : Int)], [AV.int IntKind.u8 (77 : Int)], [AV.int IntKind.u8 (13 : Int)], [AV.int IntKind.u8 (10 : Int)], [AV.int IntKind.u8 (13 : Int)], [AV.int IntKind.u8 (10 : Int)]], vev19_1 (0 : Int) (ByteArray.mk #[]).data.toList false [[AV.int IntKind.u8 (80 : Int)], [AV.int IntKind.u8 (82 : Int)], [AV.int IntKind.u8 (73 : Int)], [AV.int IntKind.u8 (32 : Int)], [AV.int IntKind.u8 (42 : Int)], [AV.int IntKind.u8 (32 : Int)], [AV.int IntKind.u8 (72 : Int)], [AV.int IntKind.u8 (84 : Int)], [AV.int IntKind.u8 (84 : Int)], [AV.int IntKind.u8 (80 : Int)], [AV.int IntKind.u8 (47 : Int)], [AV.int IntKind.u8 (50 : Int)], [AV.int IntKind.u8 (46 : Int)], [AV.int IntKind.u8 (48 : Int)], [AV.int IntKind.u8 (13 : Int)], [AV.int IntKind.u8 (10 : Int)], [AV.int IntKind.u8 (13 : Int)], [AV.int IntKind.u8 (10 : Int)], [AV.int IntKind.u8 (83 : Int)], [AV.int IntKind.u8 (77 : Int)], [AV.int IntKind.u8 (13 : Int)], [AV.int IntKind.u8 (10 : Int)], [AV.int IntKind.u8 (13 : Int)], [AV.int IntKind.u8 (10 : Int)]], vev19_2 (0 : Int) (ByteArray.mk #[]).data.toList false [[AV.int IntKind.u8 (80 : Int)], [AV.int IntKind.u8 (82 : Int)], [AV.int IntKind.u8 (73 : Int)], [AV.int IntKind.u8 (32 : Int)], [AV.int IntKind.u8 (42 : Int)], [AV.int IntKind.u8 (32 : Int)], [AV.int IntKind.u8 (72 : Int)], [AV.int IntKind.u8 (84 : Int)], [AV.int IntKind.u8 (84 : Int)], [AV.int IntKind.u8 (80 : Int)], [AV.int IntKind.u8 (47 : Int)], [AV.int IntKind.u8 (50 : Int)], [AV.int IntKind.u8 (46 : Int)], [AV.int IntKind.u8 (48 : Int)], [AV.int IntKind.u8 (13 : Int)], [AV.int IntKind.u8 (10 : Int)], [AV.int IntKind.u8 (13 : Int)], [AV.int IntKind.u8 (10 : Int)], [AV.int IntKind.u8 (83 : Int)], [AV.int IntKind.u8 (77 : Int)], [AV.int IntKind.u8 (13 : Int)], [AV.int IntKind.u8 (10 : Int)], [AV.int IntKind.u8 (13 : Int)], [AV.int IntKind.u8 (10 : Int)]])).fst) = c0
  generalize (decide ((↑(vev19_3 (0 : Int) (ByteArray.mk #[]).data.toList false [[AV.int IntKind.u8 (80 : Int)], [AV.int IntKind.u8 (82 : Int)], [AV.int IntKind.u8 (73 : Int)], [AV.int IntKind.u8 (32 : Int)], [AV.int IntKind.u8 (42 : Int)], [AV.int IntKind.u8 (32 : Int)], [AV.int IntKind.u8 (72 : Int)], [AV.int IntKind.u8 (84 : Int)], [AV.int IntKind.u8 (84 : Int)], [AV.int IntKind.u8 (80 : Int)], [AV.int IntKind.u8 (47 : Int)], [AV.int IntKind.u8 (50 : Int)], [AV.int IntKind.u8 (46 : Int)], [AV.int IntKind.u8 (48 : Int)], [AV.int IntKind.u8 (13 : Int)], [AV.int IntKind.u8 (10 : Int)], [AV.int IntKind.u8 (13 : Int)], [AV.int IntKind.u8 (10 : Int)], [AV.int IntKind.u8 (83 : Int)], [AV.int IntKind.u8 (77 : Int)], [AV.int IntKind.u8 (13 : Int)], [AV.int IntKind.u8 (10 : Int)], [AV.int IntKind.u8 (13 : Int)], [AV.int IntKind.u8 (10 : Int)]]).length : Int) = (0 : Int))) = c1
  generalize (decide (vev19_4 (0 : Int) (ByteArray.mk #[]).data.toList false [[AV.int IntKind.u8 (80 : Int)], [AV.int IntKind.u8 (82 : Int)], [AV.int IntKind.u8 (73 : Int)], [AV.int IntKind.u8 (32 : Int)], [AV.int IntKind.u8 (42 : Int)], [AV.int IntKind.u8 (32 : Int)], [AV.int IntKind.u8 (72 : Int)], [AV.int IntKind.u8 (84 : Int)], [AV.int IntKind.u8 (84 : Int)], [AV.int IntKind.u8 (80 : Int)], [AV.int IntKind.u8 (47 : Int)], [AV.int IntKind.u8 (50 : Int)], [AV.int IntKind.u8 (46 : Int)], [AV.int IntKind.u8 (48 : Int)], [AV.int IntKind.u8 (13 : Int)], [AV.int IntKind.u8 (10 : Int)], [AV.int IntKind.u8 (13 : Int)], [AV.int IntKind.u8 (10 : Int)], [AV.int IntKind.u8 (83 : Int)], [AV.int IntKind.u8 (77 : Int)], [AV.int IntKind.u8 (13 : Int)], [AV.int IntKind.u8 (10 : Int)], [AV.int IntKind.u8 (13 : Int)], [AV.int IntKind.u8 (10 : Int)]] = (0 : Int))) = c2
  generalize (decide (rev8_24 es k by' < (↑[[AV.int IntKind.u8 (80 : Int)], [AV.int IntKind.u8 (82 : Int)], [AV.int IntKind.u8 (73 : Int)], [AV.int IntKind.u8 (32 : Int)], [AV.int IntKind.u8 (42 : Int)], [AV.int IntKind.u8 (32 : Int)], [AV.int IntKind.u8 (72 : Int)], [AV.int IntKind.u8 (84 : Int)], [AV.int IntKind.u8 (84 : Int)], [AV.int IntKind.u8 (80 : Int)], [AV.int IntKind.u8 (47 : Int)], [AV.int IntKind.u8 (50 : Int)], [AV.int IntKind.u8 (46 : Int)], [AV.int IntKind.u8 (48 : Int)], [AV.int IntKind.u8 (13 : Int)], [AV.int IntKind.u8 (10 : Int)], [AV.int IntKind.u8 (13 : Int)], [AV.int IntKind.u8 (10 : Int)], [AV.int IntKind.u8 (83 : Int)], [AV.int IntKind.u8 (77 : Int)], [AV.int IntKind.u8 (13 : Int)], [AV.int IntKind.u8 (10 : Int)], [AV.int IntKind.u8 (13 : Int)], [AV.int IntKind.u8 (10 : Int)]].length : Int))) = c3
  generalize (vev19_5 (0 : Int) (ByteArray.mk #[]).data.toList false [[AV.int IntKind.u8 (80 : Int)], [AV.int IntKind.u8 (82 : Int)], [AV.int IntKind.u8 (73 : Int)], [AV.int IntKind.u8 (32 : Int)], [AV.int IntKind.u8 (42 : Int)], [AV.int IntKind.u8 (32 : Int)], [AV.int IntKind.u8 (72 : Int)], [AV.int IntKind.u8 (84 : Int)], [AV.int IntKind.u8 (84 : Int)], [AV.int IntKind.u8 (80 : Int)], [AV.int IntKind.u8 (47 : Int)], [AV.int IntKind.u8 (50 : Int)], [AV.int IntKind.u8 (46 : Int)], [AV.int IntKind.u8 (48 : Int)], [AV.int IntKind.u8 (13 : Int)], [AV.int IntKind.u8 (10 : Int)], [AV.int IntKind.u8 (13 : Int)], [AV.int IntKind.u8 (10 : Int)], [AV.int IntKind.u8 (83 : Int)], [AV.int IntKind.u8 (77 : Int)], [AV.int IntKind.u8 (13 : Int)], [AV.int IntKind.u8 (10 : Int)], [AV.int IntKind.u8 (13 : Int)], [AV.int IntKind.u8 (10 : Int)]]) = c4
  generalize (decide (((rn8_7_10 es k by' (rev8_1 es k by') (rev8_2 es k by') (rev8_3 es k by') (rev8_0 es k by').snd.snd.snd).length + (rn8_7_11 es k by' (rev8_1 es k by') (rev8_2 es k by') (rev8_3 es k by') (rev8_0 es k by').snd.snd.snd).length) * (40 : Nat) ≤ (140737488355328 : Nat))) = c5
  generalize (decide ((rn8_7_10 es k by' (rev8_1 es k by') (rev8_2 es k by') (rev8_3 es k by') (rev8_0 es k by').snd.snd.snd).length + (rn8_7_11 es k by' (rev8_1 es k by') (rev8_2 es k by') (rev8_3 es k by') (rev8_0 es k by').snd.snd.snd).length ≤ (9223372036854775807 : Nat))) = c6
  generalize (decide (((0 : Nat) + (rn8_7_6 es k by' (rev8_1 es k by') (rev8_2 es k by') (rev8_3 es k by') (rev8_0 es k by').snd.snd.snd).length) * (40 : Nat) ≤ (140737488355328 : Nat))) = c7
  generalize ((List.brecOn.go (motive := fun x => List UInt8 → Bool) (strOf (((rn8_7_12 es k by' (rev8_1 es k by') (rev8_2 es k by') (rev8_3 es k by') (rev8_0 es k by').snd.snd.snd).getD (Int.toNat (0 : Int)) []).getD ((0 : Nat) + (1 : Nat) + (1 : Nat) + (1 : Nat) + (1 : Nat)) AV.junk)) List.beq._f).1 (rev8_16 es k by')) = c8
  generalize (decide ((0 : Nat) + (rn8_7_6 es k by' (rev8_1 es k by') (rev8_2 es k by') (rev8_3 es k by') (rev8_0 es k by').snd.snd.snd).length ≤ (9223372036854775807 : Nat))) = c9
  generalize (vev19_5 (rev8_11 es k by') (rev8_12 es k by') (vev19_2 (rev8_2 es k by') (rev8_3 es k by') (rev8_0 es k by').snd.snd.snd (rev8_9 es k by')) (rev8_17 es k by')) = c10
  generalize (decide (vev19_2 (0 : Int) (ByteArray.mk #[]).data.toList false (rev8_25 es k by') = true)) = c11
  generalize (vev25_1 (rev8_11 es k by') (rev8_12 es k by') (vev19_2 (rev8_2 es k by') (rev8_3 es k by') (rev8_0 es k by').snd.snd.snd (rev8_9 es k by'))) = c12
  generalize ((List.brecOn.go (motive := fun x => List UInt8 → Bool) (vev19_1 (0 : Int) (ByteArray.mk #[]).data.toList false (rev8_25 es k by')) List.beq._f).1 (ByteArray.mk #[]).data.toList) = c13
  generalize (vev19_5 (rev8_2 es k by') (rev8_3 es k by') (rev8_0 es k by').snd.snd.snd (rev8_9 es k by')) = c14
  generalize (vev25_1 (rev8_2 es k by') (rev8_3 es k by') (rev8_0 es k by').snd.snd.snd) = c15
  generalize (decide ((↑es.length : Int) > (12 : Int))) = c16
  generalize (decide (rev8_1 es k by' < (↑es.length : Int))) = c17
  generalize (decide ((rev8_16 es k by').length ≤ (4611686018427387904 : Nat))) = c18
  generalize (decide ((0 : Int) < rev8_19 es k by')) = c19
  generalize (decide (rev8_4 es k by' > (0 : Int))) = c20
  generalize (decide ((0 : Int) ≤ rev8_24 es k by')) = c21
  generalize (decide ((0 : Int) ≤ rev8_1 es k by')) = c22
  generalize (decide (rev8_4 es k by' > (60 : Int))) = c23
  generalize (decide (rev8_15 es k by' = (9 : Int))) = c24
  generalize (decide (rev8_19 es k by' = (1 : Int))) = c25
  generalize (decide (rev8_26 es k by' = (0 : Int))) = c26
  generalize (decide (rev8_8 es k by' = (0 : Int))) = c27
  generalize (decide (rev8_28 es k by' = (1 : Int))) = c28
  generalize (decide (rev8_10 es k by' = (0 : Int))) = c29
  generalize (decide (rev8_18 es k by' = (0 : Int))) = c30
  generalize (decide (rev8_14 es k by' = (0 : Int))) = c31
  generalize (decide (rev8_27 es k by' = (0 : Int))) = c32
  generalize (decide (rev8_20 es k by' = rev8_4 es k by')) = c33
  generalize (decide (rev8_22 es k by' = rev8_6 es k by')) = c34
  generalize (decide (rev8_23 es k by' = rev8_7 es k by')) = c35
  generalize (decide (rev8_21 es k by' = rev8_5 es k by')) = c36
  generalize (decide (rev8_13 es k by' = rev8_4 es k by')) = c37
  generalize (vev19_5 (0 : Int) (ByteArray.mk #[]).data.toList false (rev8_25 es k by')) = c38
  cases c16
  · skip
    cases c4
    · skip
      rfl
    · skip
      cases c2
      · skip
        rfl
      · skip
        cases c1
        · skip
          rfl
        · skip
          cases c0
          · skip
            rfl
          · skip
            cases c17
            · skip
              cases c21
              · skip
                rfl
              · skip
                cases c3
                · skip
                  rfl
                · skip
                  cases c38
                  · skip
                    rfl
                  · skip
                    cases c26
                    · skip
                      rfl
                    · skip
                      cases c13
                      · skip
                        rfl
                      · skip
                        cases c11
                        · skip
                          rfl
                        · skip
                          cases c32
                          · skip
                            rfl
                          · skip
                            cases c28
                            · skip
                              rfl
                            · skip
                              rfl
            · skip
              cases c22
              · skip
                cases c21
                · skip
                  rfl
                · skip
                  cases c3
                  · skip
                    rfl
                  · skip
                    cases c38
                    · skip
                      rfl
                    · skip
                      cases c26
                      · skip
                        rfl
                      · skip
                        cases c13
                        · skip
                          rfl
                        · skip
                          cases c11
                          · skip
                            rfl
                          · skip
                            cases c32
                            · skip
                              rfl
                            · skip
                              cases c28
                              · skip
                                rfl
                              · skip
                                rfl
              · skip
                cases c23
                · skip
                  cases c27
                  · skip
                    rfl
                  · skip
                    cases c14
                    · skip
                      cases c21
                      · skip
                        rfl
                      · skip
                        cases c3
                        · skip
                          rfl
                        · skip
                          cases c38
                          · skip
                            rfl
                          · skip
                            cases c26
                            · skip
                              rfl
                            · skip
                              cases c13
                              · skip
                                rfl
                              · skip
                                cases c11
                                · skip
                                  rfl
                                · skip
                                  cases c32
                                  · skip
                                    rfl
                                  · skip
                                    cases c28
                                    · skip
                                      rfl
                                    · skip
                                      rfl
                    · skip
                      cases c20
                      · skip
                        cases c31
                        · skip
                          rfl
                        · skip
                          cases c15
                          · skip
                            cases c21
                            · skip
                              rfl
                            · skip
                              cases c3
                              · skip
                                rfl
                              · skip
                                cases c38
                                · skip
                                  rfl
                                · skip
                                  cases c26
                                  · skip
                                    rfl
                                  · skip
                                    cases c13
                                    · skip
                                      rfl
                                    · skip
                                      cases c11
                                      · skip
                                        rfl
                                      · skip
                                        cases c32
                                        · skip
                                          rfl
                                        · skip
                                          cases c28
                                          · skip
                                            rfl
                                          · skip
                                            rfl
                          · skip
                            cases c24
                            · skip
                              rfl
                            · skip
                              cases c18
                              · skip
                                cases c21
                                · skip
                                  rfl
                                · skip
                                  cases c3
                                  · skip
                                    rfl
                                  · skip
                                    cases c38
                                    · skip
                                      rfl
                                    · skip
                                      cases c26
                                      · skip
                                        rfl
                                      · skip
                                        cases c13
                                        · skip
                                          rfl
                                        · skip
                                          cases c11
                                          · skip
                                            rfl
                                          · skip
                                            cases c32
                                            · skip
                                              rfl
                                            · skip
                                              cases c28
                                              · skip
                                                rfl
                                              · skip
                                                rfl
                              · skip
                                cases c10
                                · skip
                                  cases c21
                                  · skip
                                    rfl
                                  · skip
                                    cases c3
                                    · skip
                                      rfl
                                    · skip
                                      cases c38
                                      · skip
                                        rfl
                                      · skip
                                        cases c26
                                        · skip
                                          rfl
                                        · skip
                                          cases c13
                                          · skip
                                            rfl
                                          · skip
                                            cases c11
                                            · skip
                                              rfl
                                            · skip
                                              cases c32
                                              · skip
                                                rfl
                                              · skip
                                                cases c28
                                                · skip
                                                  rfl
                                                · skip
                                                  rfl
                                · skip
                                  cases c7
                                  · skip
                                    cases c21
                                    · skip
                                      rfl
                                    · skip
                                      cases c3
                                      · skip
                                        rfl
                                      · skip
                                        cases c38
                                        · skip
                                          rfl
                                        · skip
                                          cases c26
                                          · skip
                                            rfl
                                          · skip
                                            cases c13
                                            · skip
                                              rfl
                                            · skip
                                              cases c11
                                              · skip
                                                rfl
                                              · skip
                                                cases c32
                                                · skip
                                                  rfl
                                                · skip
                                                  cases c28
                                                  · skip
                                                    rfl
                                                  · skip
                                                    rfl
                                  · skip
                                    cases c9
                                    · skip
                                      cases c21
                                      · skip
                                        rfl
                                      · skip
                                        cases c3
                                        · skip
                                          rfl
                                        · skip
                                          cases c38
                                          · skip
                                            rfl
                                          · skip
                                            cases c26
                                            · skip
                                              rfl
                                            · skip
                                              cases c13
                                              · skip
                                                rfl
                                              · skip
                                                cases c11
                                                · skip
                                                  rfl
                                                · skip
                                                  cases c32
                                                  · skip
                                                    rfl
                                                  · skip
                                                    cases c28
                                                    · skip
                                                      rfl
                                                    · skip
                                                      rfl
                                    · skip
                                      cases c5
                                      · skip
                                        cases c21
                                        · skip
                                          rfl
                                        · skip
                                          cases c3
                                          · skip
                                            rfl
                                          · skip
                                            cases c38
                                            · skip
                                              rfl
                                            · skip
                                              cases c26
                                              · skip
                                                rfl
                                              · skip
                                                cases c13
                                                · skip
                                                  rfl
                                                · skip
                                                  cases c11
                                                  · skip
                                                    rfl
                                                  · skip
                                                    cases c32
                                                    · skip
                                                      rfl
                                                    · skip
                                                      cases c28
                                                      · skip
                                                        rfl
                                                      · skip
                                                        rfl
                                      · skip
                                        cases c6
                                        · skip
                                          cases c21
                                          · skip
                                            rfl
                                          · skip
                                            cases c3
                                            · skip
                                              rfl
                                            · skip
                                              cases c38
                                              · skip
                                                rfl
                                              · skip
                                                cases c26
                                                · skip
                                                  rfl
                                                · skip
                                                  cases c13
                                                  · skip
                                                    rfl
                                                  · skip
                                                    cases c11
                                                    · skip
                                                      rfl
                                                    · skip
                                                      cases c32
                                                      · skip
                                                        rfl
                                                      · skip
                                                        cases c28
                                                        · skip
                                                          rfl
                                                        · skip
                                                          rfl
                                        · skip
                                          cases c30
                                          · skip
                                            rfl
                                          · skip
                                            cases c25
                                            · skip
                                              rfl
                                            · skip
                                              cases c19
                                              · skip
                                                cases c21
                                                · skip
                                                  rfl
                                                · skip
                                                  cases c3
                                                  · skip
                                                    rfl
                                                  · skip
                                                    cases c38
                                                    · skip
                                                      rfl
                                                    · skip
                                                      cases c26
                                                      · skip
                                                        rfl
                                                      · skip
                                                        cases c13
                                                        · skip
                                                          rfl
                                                        · skip
                                                          cases c11
                                                          · skip
                                                            rfl
                                                          · skip
                                                            cases c32
                                                            · skip
                                                              rfl
                                                            · skip
                                                              cases c28
                                                              · skip
                                                                rfl
                                                              · skip
                                                                rfl
                                              · skip
                                                cases c33
                                                · skip
                                                  rfl
                                                · skip
                                                  cases c36
                                                  · skip
                                                    rfl
                                                  · skip
                                                    cases c34
                                                    · skip
                                                      rfl
                                                    · skip
                                                      cases c35
                                                      · skip
                                                        rfl
                                                      · skip
                                                        cases c8
                                                        · skip
                                                          rfl
                                                        · skip
                                                          cases c21
                                                          · skip
                                                            rfl
                                                          · skip
                                                            cases c3
                                                            · skip
                                                              rfl
                                                            · skip
                                                              cases c38
                                                              · skip
                                                                rfl
                                                              · skip
                                                                cases c26
                                                                · skip
                                                                  rfl
                                                                · skip
                                                                  cases c13
                                                                  · skip
                                                                    rfl
                                                                  · skip
                                                                    cases c11
                                                                    · skip
                                                                      rfl
                                                                    · skip
                                                                      cases c32
                                                                      · skip
                                                                        rfl
                                                                      · skip
                                                                        cases c28
                                                                        · skip
                                                                          rfl
                                                                        · skip
                                                                          rfl
                      · skip
                        cases c29
                        · skip
                          rfl
                        · skip
                          cases c12
                          · skip
                            cases c21
                            · skip
                              rfl
                            · skip
                              cases c3
                              · skip
                                rfl
                              · skip
                                cases c38
                                · skip
                                  rfl
                                · skip
                                  cases c26
                                  · skip
                                    rfl
                                  · skip
                                    cases c13
                                    · skip
                                      rfl
                                    · skip
                                      cases c11
                                      · skip
                                        rfl
                                      · skip
                                        cases c32
                                        · skip
                                          rfl
                                        · skip
                                          cases c28
                                          · skip
                                            rfl
                                          · skip
                                            rfl
                          · skip
                            cases c37
                            · skip
                              rfl
                            · skip
                              cases c31
                              · skip
                                rfl
                              · skip
                                cases c15
                                · skip
                                  cases c21
                                  · skip
                                    rfl
                                  · skip
                                    cases c3
                                    · skip
                                      rfl
                                    · skip
                                      cases c38
                                      · skip
                                        rfl
                                      · skip
                                        cases c26
                                        · skip
                                          rfl
                                        · skip
                                          cases c13
                                          · skip
                                            rfl
                                          · skip
                                            cases c11
                                            · skip
                                              rfl
                                            · skip
                                              cases c32
                                              · skip
                                                rfl
                                              · skip
                                                cases c28
                                                · skip
                                                  rfl
                                                · skip
                                                  rfl
                                · skip
                                  cases c24
                                  · skip
                                    rfl
                                  · skip
                                    cases c18
                                    · skip
                                      cases c21
                                      · skip
                                        rfl
                                      · skip
                                        cases c3
                                        · skip
                                          rfl
                                        · skip
                                          cases c38
                                          · skip
                                            rfl
                                          · skip
                                            cases c26
                                            · skip
                                              rfl
                                            · skip
                                              cases c13
                                              · skip
                                                rfl
                                              · skip
                                                cases c11
                                                · skip
                                                  rfl
                                                · skip
                                                  cases c32
                                                  · skip
                                                    rfl
                                                  · skip
                                                    cases c28
                                                    · skip
                                                      rfl
                                                    · skip
                                                      rfl
                                    · skip
                                      cases c10
                                      · skip
                                        cases c21
                                        · skip
                                          rfl
                                        · skip
                                          cases c3
                                          · skip
                                            rfl
                                          · skip
                                            cases c38
                                            · skip
                                              rfl
                                            · skip
                                              cases c26
                                              · skip
                                                rfl
                                              · skip
                                                cases c13
                                                · skip
                                                  rfl
                                                · skip
                                                  cases c11
                                                  · skip
                                                    rfl
                                                  · skip
                                                    cases c32
                                                    · skip
                                                      rfl
                                                    · skip
                                                      cases c28
                                                      · skip
                                                        rfl
                                                      · skip
                                                        rfl
                                      · skip
                                        cases c7
                                        · skip
                                          cases c21
                                          · skip
                                            rfl
                                          · skip
                                            cases c3
                                            · skip
                                              rfl
                                            · skip
                                              cases c38
                                              · skip
                                                rfl
                                              · skip
                                                cases c26
                                                · skip
                                                  rfl
                                                · skip
                                                  cases c13
                                                  · skip
                                                    rfl
                                                  · skip
                                                    cases c11
                                                    · skip
                                                      rfl
                                                    · skip
                                                      cases c32
                                                      · skip
                                                        rfl
                                                      · skip
                                                        cases c28
                                                        · skip
                                                          rfl
                                                        · skip
                                                          rfl
                                        · skip
                                          cases c9
                                          · skip
                                            cases c21
                                            · skip
                                              rfl
                                            · skip
                                              cases c3
                                              · skip
                                                rfl
                                              · skip
                                                cases c38
                                                · skip
                                                  rfl
                                                · skip
                                                  cases c26
                                                  · skip
                                                    rfl
                                                  · skip
                                                    cases c13
                                                    · skip
                                                      rfl
                                                    · skip
                                                      cases c11
                                                      · skip
                                                        rfl
                                                      · skip
                                                        cases c32
                                                        · skip
                                                          rfl
                                                        · skip
                                                          cases c28
                                                          · skip
                                                            rfl
                                                          · skip
                                                            rfl
                                          · skip
                                            cases c5
                                            · skip
                                              cases c21
                                              · skip
                                                rfl
                                              · skip
                                                cases c3
                                                · skip
                                                  rfl
                                                · skip
                                                  cases c38
                                                  · skip
                                                    rfl
                                                  · skip
                                                    cases c26
                                                    · skip
                                                      rfl
                                                    · skip
                                                      cases c13
                                                      · skip
                                                        rfl
                                                      · skip
                                                        cases c11
                                                        · skip
                                                          rfl
                                                        · skip
                                                          cases c32
                                                          · skip
                                                            rfl
                                                          · skip
                                                            cases c28
                                                            · skip
                                                              rfl
                                                            · skip
                                                              rfl
                                            · skip
                                              cases c6
                                              · skip
                                                cases c21
                                                · skip
                                                  rfl
                                                · skip
                                                  cases c3
                                                  · skip
                                                    rfl
                                                  · skip
                                                    cases c38
                                                    · skip
                                                      rfl
                                                    · skip
                                                      cases c26
                                                      · skip
                                                        rfl
                                                      · skip
                                                        cases c13
                                                        · skip
                                                          rfl
                                                        · skip
                                                          cases c11
                                                          · skip
                                                            rfl
                                                          · skip
                                                            cases c32
                                                            · skip
                                                              rfl
                                                            · skip
                                                              cases c28
                                                              · skip
                                                                rfl
                                                              · skip
                                                                rfl
                                              · skip
                                                cases c30
                                                · skip
                                                  rfl
                                                · skip
                                                  cases c25
                                                  · skip
                                                    rfl
                                                  · skip
                                                    cases c19
                                                    · skip
                                                      cases c21
                                                      · skip
                                                        rfl
                                                      · skip
                                                        cases c3
                                                        · skip
                                                          rfl
                                                        · skip
                                                          cases c38
                                                          · skip
                                                            rfl
                                                          · skip
                                                            cases c26
                                                            · skip
                                                              rfl
                                                            · skip
                                                              cases c13
                                                              · skip
                                                                rfl
                                                              · skip
                                                                cases c11
                                                                · skip
                                                                  rfl
                                                                · skip
                                                                  cases c32
                                                                  · skip
                                                                    rfl
                                                                  · skip
                                                                    cases c28
                                                                    · skip
                                                                      rfl
                                                                    · skip
                                                                      rfl
                                                    · skip
                                                      cases c33
                                                      · skip
                                                        rfl
                                                      · skip
                                                        cases c36
                                                        · skip
                                                          rfl
                                                        · skip
                                                          cases c34
                                                          · skip
                                                            rfl
                                                          · skip
                                                            cases c35
                                                            · skip
                                                              rfl
                                                            · skip
                                                              cases c8
                                                              · skip
                                                                rfl
                                                              · skip
                                                                cases c21
                                                                · skip
                                                                  rfl
                                                                · skip
                                                                  cases c3
                                                                  · skip
                                                                    rfl
                                                                  · skip
                                                                    cases c38
                                                                    · skip
                                                                      rfl
                                                                    · skip
                                                                      cases c26
                                                                      · skip
                                                                        rfl
                                                                      · skip
                                                                        cases c13
                                                                        · skip
                                                                          rfl
                                                                        · skip
                                                                          cases c11
                                                                          · skip
                                                                            rfl
                                                                          · skip
                                                                            cases c32
                                                                            · skip
                                                                              rfl
                                                                            · skip
                                                                              cases c28
                                                                              · skip
                                                                                rfl
                                                                              · skip
                                                                                rfl
                · skip
                  rfl
  · skip
    rfl
-- spec vev8_1 es k by' ;; (AV.bool (vev8_0 es k by'), [])
-- law 8: loops loops8 gam k9
end Go.Proofs.Gv
