import Derived.Test.YtndephedgodneaaGt
import Derived.KernelRfl
import Derived.Test.YtndephedgodneaaGwF
import Derived.Test.YtndephedgodneaaGaFr5
namespace Go.Proofs.Gv
open Go.Proofs
set_option linter.unusedVariables false
/-- ref.Wide: of four, three and two bytes, with a loop's row that goes back to one number. -/
noncomputable def tabW : Tab := { tab with keep := fun f i => match Nat.beq f 69 && Nat.beq i 3 with
  | true => some ([0, 1, 5, 6], [1], [.slot 5 2 kd44, .ren 1 2])
  | false => tab.keep f i }
noncomputable def wQ (n : Int) : Nat → Int
  | 0 => n
  | j + 1 => IntKind.i64.wrap ((wQ n j).tdiv 256)
noncomputable def wB (n : Int) (j : Nat) : List AV := [AV.int IntKind.u8 (IntKind.u8.wrap ((wQ n j).tmod 256))]
noncomputable def wR (n k : Int) : List (List AV) := bif k == 4 then [wB n 3, wB n 2, wB n 1, wB n 0] else bif k == 3 then [wB n 2, wB n 1, wB n 0] else [wB n 1, wB n 0]
theorem ev69w4 (n : Int) : evFun (cfg Try.prog tabW 100000 (gk k68 30) noLsp 69 ([] : List Blk).length Try.f69.ntmps) Try.f69 [.int .i64 n, .int .i64 4] [] = some (AV.rf (nat_lit 0) [Kd.int IntKind.u8], [Blk.row [Kd.int IntKind.u8] (wR n 4)]) := by kernel_rfl
theorem ev69w3 (n : Int) : evFun (cfg Try.prog tabW 100000 (gk k68 30) noLsp 69 ([] : List Blk).length Try.f69.ntmps) Try.f69 [.int .i64 n, .int .i64 3] [] = some (AV.rf (nat_lit 0) [Kd.int IntKind.u8], [Blk.row [Kd.int IntKind.u8] (wR n 3)]) := by kernel_rfl
theorem ev69w2 (n : Int) : evFun (cfg Try.prog tabW 100000 (gk k68 30) noLsp 69 ([] : List Blk).length Try.f69.ntmps) Try.f69 [.int .i64 n, .int .i64 2] [] = some (AV.rf (nat_lit 0) [Kd.int IntKind.u8], [Blk.row [Kd.int IntKind.u8] (wR n 2)]) := by kernel_rfl
noncomputable def sp69 : List AV → List Blk → Option (Bool × AV × List Blk)
  | [.int .i64 n, .int .i64 k], [] => some ((k == 4 || (k == 3 || k == 2)), AV.rf (nat_lit 0) [Kd.int IntKind.u8], [Blk.row [Kd.int IntKind.u8] (wR n k)])
  | _, _ => none
noncomputable def k69 : Gam := fun f T C => match Nat.beq f 69 with
  | true => (sp69 T C).or (k68 f T C)
  | false => k68 f T C
theorem k69_ok : GamOK Try.prog k69 := by
  intro f T C r outs h
  unfold k69 at h
  cases hf : Nat.beq f 69 with
  | false => rw [hf] at h; exact k68_ok f T C r outs h
  | true =>
    have hf' := Nat.eq_of_beq_eq_true hf
    subst hf'
    rw [hf] at h
    dsimp only at h
    cases hs : sp69 T C with
    | none => rw [hs] at h; exact k68_ok _ T C r outs h
    | some x =>
      rw [hs] at h
      have hx : x = (true, r, outs) := by simpa using h
      subst hx
      unfold sp69 at hs
      split at hs
      · rename_i n k
        injection hs with hs
        injection hs with hb hs
        injection hs with e1 e2
        subst e1 e2
        simp only [Bool.or_eq_true, beq_iff_eq] at hb
        rcases hb with hb | hb | hb
        · subst hb
          exact fn_ok mixed plain (gk_ok k68_ok 30) Try.func69 (fun c _ => LoopsOK.none (fun _ _ => rfl) c) (ev69w4 n)
        · subst hb
          exact fn_ok mixed plain (gk_ok k68_ok 30) Try.func69 (fun c _ => LoopsOK.none (fun _ _ => rfl) c) (ev69w3 n)
        · subst hb
          exact fn_ok mixed plain (gk_ok k68_ok 30) Try.func69 (fun c _ => LoopsOK.none (fun _ _ => rfl) c) (ev69w2 n)
      · cases hs
noncomputable def rn47_14_0 (t5 b16_0 b16_1 b16_2 : Int) (b16_3 : List UInt8) (b16_4 b16_5 : Int) (b16_6 : Bool) (b16_7 b16_8 b16_9 b16_10 : Int) (b16_11 b17 : List (List AV)) : Int := IntKind.i64.wrap (intOf ((b16_11.getD t5.toNat []).getD (0 : Nat) AV.junk))
noncomputable def rn47_14_1 (t5 b16_0 b16_1 b16_2 : Int) (b16_3 : List UInt8) (b16_4 b16_5 : Int) (b16_6 : Bool) (b16_7 b16_8 b16_9 b16_10 : Int) (b16_11 b17 : List (List AV)) : List (List AV) := wR (rn47_14_0 t5 b16_0 b16_1 b16_2 b16_3 b16_4 b16_5 b16_6 b16_7 b16_8 b16_9 b16_10 b16_11 b17) (2 : Int)
noncomputable def rn47_14_2 (t5 b16_0 b16_1 b16_2 : Int) (b16_3 : List UInt8) (b16_4 b16_5 : Int) (b16_6 : Bool) (b16_7 b16_8 b16_9 b16_10 : Int) (b16_11 b17 : List (List AV)) : Int := IntKind.i64.wrap (intOf ((b16_11.getD t5.toNat []).getD ((0 : Nat) + (1 : Nat)) AV.junk))
noncomputable def go47_14 (t5 b16_0 b16_1 b16_2 : Int) (b16_3 : List UInt8) (b16_4 b16_5 : Int) (b16_6 : Bool) (b16_7 b16_8 b16_9 b16_10 : Int) (b16_11 b17 : List (List AV)) : Bool := bif decide (t5 < (↑b16_11.length : Int)) then bif decide ((0 : Int) ≤ t5) && decide (t5 < (↑b16_11.length : Int)) then bif bif decide ((b17.length + (rn47_14_1 t5 b16_0 b16_1 b16_2 b16_3 b16_4 b16_5 b16_6 b16_7 b16_8 b16_9 b16_10 b16_11 b17).length) * (1 : Nat) ≤ (140737488355328 : Nat)) then decide (b17.length + (rn47_14_1 t5 b16_0 b16_1 b16_2 b16_3 b16_4 b16_5 b16_6 b16_7 b16_8 b16_9 b16_10 b16_11 b17).length ≤ (9223372036854775807 : Nat)) else false then bif decide (((b17 ++ rn47_14_1 t5 b16_0 b16_1 b16_2 b16_3 b16_4 b16_5 b16_6 b16_7 b16_8 b16_9 b16_10 b16_11 b17).length + (wR (rn47_14_2 t5 b16_0 b16_1 b16_2 b16_3 b16_4 b16_5 b16_6 b16_7 b16_8 b16_9 b16_10 b16_11 b17) (4 : Int)).length) * (1 : Nat) ≤ (140737488355328 : Nat)) then decide ((b17 ++ rn47_14_1 t5 b16_0 b16_1 b16_2 b16_3 b16_4 b16_5 b16_6 b16_7 b16_8 b16_9 b16_10 b16_11 b17).length + (wR (rn47_14_2 t5 b16_0 b16_1 b16_2 b16_3 b16_4 b16_5 b16_6 b16_7 b16_8 b16_9 b16_10 b16_11 b17) (4 : Int)).length ≤ (9223372036854775807 : Nat)) else false else false else false else false
noncomputable def nx47_14_0 (t5 b16_0 b16_1 b16_2 : Int) (b16_3 : List UInt8) (b16_4 b16_5 : Int) (b16_6 : Bool) (b16_7 b16_8 b16_9 b16_10 : Int) (b16_11 b17 : List (List AV)) : Int := IntKind.i64.wrap (t5 + (1 : Int))
noncomputable def nx47_14_13 (t5 b16_0 b16_1 b16_2 : Int) (b16_3 : List UInt8) (b16_4 b16_5 : Int) (b16_6 : Bool) (b16_7 b16_8 b16_9 b16_10 : Int) (b16_11 b17 : List (List AV)) : List (List AV) := b17 ++ [[AV.int IntKind.u8 (IntKind.u8.wrap ((wQ (rn47_14_0 t5 b16_0 b16_1 b16_2 b16_3 b16_4 b16_5 b16_6 b16_7 b16_8 b16_9 b16_10 b16_11 b17) (1 : Nat)).tmod (256 : Int)))], [AV.int IntKind.u8 (IntKind.u8.wrap ((wQ (rn47_14_0 t5 b16_0 b16_1 b16_2 b16_3 b16_4 b16_5 b16_6 b16_7 b16_8 b16_9 b16_10 b16_11 b17) (0 : Nat)).tmod (256 : Int)))]] ++ [[AV.int IntKind.u8 (IntKind.u8.wrap ((wQ (rn47_14_2 t5 b16_0 b16_1 b16_2 b16_3 b16_4 b16_5 b16_6 b16_7 b16_8 b16_9 b16_10 b16_11 b17) (3 : Nat)).tmod (256 : Int)))], [AV.int IntKind.u8 (IntKind.u8.wrap ((wQ (rn47_14_2 t5 b16_0 b16_1 b16_2 b16_3 b16_4 b16_5 b16_6 b16_7 b16_8 b16_9 b16_10 b16_11 b17) (2 : Nat)).tmod (256 : Int)))], [AV.int IntKind.u8 (IntKind.u8.wrap ((wQ (rn47_14_2 t5 b16_0 b16_1 b16_2 b16_3 b16_4 b16_5 b16_6 b16_7 b16_8 b16_9 b16_10 b16_11 b17) (1 : Nat)).tmod (256 : Int)))], [AV.int IntKind.u8 (IntKind.u8.wrap ((wQ (rn47_14_2 t5 b16_0 b16_1 b16_2 b16_3 b16_4 b16_5 b16_6 b16_7 b16_8 b16_9 b16_10 b16_11 b17) (0 : Nat)).tmod (256 : Int)))]]
noncomputable def xc47_14_0 (t5 b16_0 b16_1 b16_2 : Int) (b16_3 : List UInt8) (b16_4 b16_5 : Int) (b16_6 : Bool) (b16_7 b16_8 b16_9 b16_10 : Int) (b16_11 b17 : List (List AV)) : Bool := bif decide (t5 < (↑b16_11.length : Int)) then false else true
theorem rd47_14 (rest : Lsp) (t5 b16_0 b16_1 b16_2 : Int) (b16_3 : List UInt8) (b16_4 b16_5 : Int) (b16_6 : Bool) (b16_7 b16_8 b16_9 b16_10 : Int) (b16_11 b17 : List (List AV)) : roundV (cfg Try.prog tab 100000 (gk k69 30) rest 47 0 Try.f47.ntmps) (loopAt Try.f47 14) [1, 3, 5] [3, 7, 9, 11, 13, 15, 16, 17] [1, 3] [3, 7, 9, 11, 13, 15, 16, 17] [AV.hp (nat_lit 16) (nat_lit 0), AV.rf (nat_lit 17) [Kd.int IntKind.u8], AV.int IntKind.i64 t5] [Blk.dead, Blk.dead, Blk.dead, Blk.dead, Blk.dead, Blk.dead, Blk.var [AV.int IntKind.u8 b16_0, AV.int IntKind.u8 b16_1, AV.int IntKind.i64 b16_2, AV.str b16_3, AV.int IntKind.i64 b16_4, AV.int IntKind.i64 b16_5, AV.bool b16_6, AV.int IntKind.u8 b16_7, AV.int IntKind.u32 b16_8, AV.int IntKind.i64 b16_9, AV.int IntKind.i64 b16_10, AV.sl Tk.imm [Kd.int IntKind.u16, Kd.int IntKind.u32] b16_11], Blk.row [Kd.int IntKind.u8] b17] = bif go47_14 t5 b16_0 b16_1 b16_2 b16_3 b16_4 b16_5 b16_6 b16_7 b16_8 b16_9 b16_10 b16_11 b17 then some (Ex.norm, [AV.hp (nat_lit 16) (nat_lit 0), AV.rf (nat_lit 17) [Kd.int IntKind.u8], AV.int IntKind.i64 (nx47_14_0 t5 b16_0 b16_1 b16_2 b16_3 b16_4 b16_5 b16_6 b16_7 b16_8 b16_9 b16_10 b16_11 b17)], [Blk.dead, Blk.dead, Blk.dead, Blk.dead, Blk.dead, Blk.dead, Blk.var [AV.int IntKind.u8 b16_0, AV.int IntKind.u8 b16_1, AV.int IntKind.i64 b16_2, AV.str b16_3, AV.int IntKind.i64 b16_4, AV.int IntKind.i64 b16_5, AV.bool b16_6, AV.int IntKind.u8 b16_7, AV.int IntKind.u32 b16_8, AV.int IntKind.i64 b16_9, AV.int IntKind.i64 b16_10, AV.sl Tk.imm [Kd.int IntKind.u16, Kd.int IntKind.u32] b16_11], Blk.row [Kd.int IntKind.u8] (nx47_14_13 t5 b16_0 b16_1 b16_2 b16_3 b16_4 b16_5 b16_6 b16_7 b16_8 b16_9 b16_10 b16_11 b17)]) else bif xc47_14_0 t5 b16_0 b16_1 b16_2 b16_3 b16_4 b16_5 b16_6 b16_7 b16_8 b16_9 b16_10 b16_11 b17 then some (Ex.exit (nat_lit 0), [AV.hp (nat_lit 16) (nat_lit 0), AV.rf (nat_lit 17) [Kd.int IntKind.u8]], [Blk.dead, Blk.dead, Blk.dead, Blk.dead, Blk.dead, Blk.dead, Blk.var [AV.int IntKind.u8 b16_0, AV.int IntKind.u8 b16_1, AV.int IntKind.i64 b16_2, AV.str b16_3, AV.int IntKind.i64 b16_4, AV.int IntKind.i64 b16_5, AV.bool b16_6, AV.int IntKind.u8 b16_7, AV.int IntKind.u32 b16_8, AV.int IntKind.i64 b16_9, AV.int IntKind.i64 b16_10, AV.sl Tk.imm [Kd.int IntKind.u16, Kd.int IntKind.u32] b16_11], Blk.row [Kd.int IntKind.u8] b17]) else none := by
  have h : roundV (cfg Try.prog tab 100000 (gk k69 30) rest 47 0 Try.f47.ntmps) (loopAt Try.f47 14) [1, 3, 5] [3, 7, 9, 11, 13, 15, 16, 17] [1, 3] [3, 7, 9, 11, 13, 15, 16, 17] [AV.hp (nat_lit 16) (nat_lit 0), AV.rf (nat_lit 17) [Kd.int IntKind.u8], AV.int IntKind.i64 t5] [Blk.dead, Blk.dead, Blk.dead, Blk.dead, Blk.dead, Blk.dead, Blk.var [AV.int IntKind.u8 b16_0, AV.int IntKind.u8 b16_1, AV.int IntKind.i64 b16_2, AV.str b16_3, AV.int IntKind.i64 b16_4, AV.int IntKind.i64 b16_5, AV.bool b16_6, AV.int IntKind.u8 b16_7, AV.int IntKind.u32 b16_8, AV.int IntKind.i64 b16_9, AV.int IntKind.i64 b16_10, AV.sl Tk.imm [Kd.int IntKind.u16, Kd.int IntKind.u32] b16_11], Blk.row [Kd.int IntKind.u8] b17] = bif decide (t5 < (↑b16_11.length : Int)) then bif decide ((0 : Int) ≤ t5) && decide (t5 < (↑b16_11.length : Int)) then bif bif decide ((b17.length + (rn47_14_1 t5 b16_0 b16_1 b16_2 b16_3 b16_4 b16_5 b16_6 b16_7 b16_8 b16_9 b16_10 b16_11 b17).length) * (1 : Nat) ≤ (140737488355328 : Nat)) then decide (b17.length + (rn47_14_1 t5 b16_0 b16_1 b16_2 b16_3 b16_4 b16_5 b16_6 b16_7 b16_8 b16_9 b16_10 b16_11 b17).length ≤ (9223372036854775807 : Nat)) else false then bif decide ((0 : Int) ≤ t5) && decide (t5 < (↑b16_11.length : Int)) then bif bif decide (((b17 ++ rn47_14_1 t5 b16_0 b16_1 b16_2 b16_3 b16_4 b16_5 b16_6 b16_7 b16_8 b16_9 b16_10 b16_11 b17).length + (wR (rn47_14_2 t5 b16_0 b16_1 b16_2 b16_3 b16_4 b16_5 b16_6 b16_7 b16_8 b16_9 b16_10 b16_11 b17) (4 : Int)).length) * (1 : Nat) ≤ (140737488355328 : Nat)) then decide ((b17 ++ rn47_14_1 t5 b16_0 b16_1 b16_2 b16_3 b16_4 b16_5 b16_6 b16_7 b16_8 b16_9 b16_10 b16_11 b17).length + (wR (rn47_14_2 t5 b16_0 b16_1 b16_2 b16_3 b16_4 b16_5 b16_6 b16_7 b16_8 b16_9 b16_10 b16_11 b17) (4 : Int)).length ≤ (9223372036854775807 : Nat)) else false then some (Ex.norm, [AV.hp (nat_lit 16) (nat_lit 0), AV.rf (nat_lit 17) [Kd.int IntKind.u8], AV.int IntKind.i64 (IntKind.i64.wrap (t5 + (1 : Int)))], [Blk.dead, Blk.dead, Blk.dead, Blk.dead, Blk.dead, Blk.dead, Blk.var [AV.int IntKind.u8 b16_0, AV.int IntKind.u8 b16_1, AV.int IntKind.i64 b16_2, AV.str b16_3, AV.int IntKind.i64 b16_4, AV.int IntKind.i64 b16_5, AV.bool b16_6, AV.int IntKind.u8 b16_7, AV.int IntKind.u32 b16_8, AV.int IntKind.i64 b16_9, AV.int IntKind.i64 b16_10, AV.sl Tk.imm [Kd.int IntKind.u16, Kd.int IntKind.u32] b16_11], Blk.row [Kd.int IntKind.u8] (b17 ++ [[AV.int IntKind.u8 (IntKind.u8.wrap ((wQ (rn47_14_0 t5 b16_0 b16_1 b16_2 b16_3 b16_4 b16_5 b16_6 b16_7 b16_8 b16_9 b16_10 b16_11 b17) (1 : Nat)).tmod (256 : Int)))], [AV.int IntKind.u8 (IntKind.u8.wrap ((wQ (rn47_14_0 t5 b16_0 b16_1 b16_2 b16_3 b16_4 b16_5 b16_6 b16_7 b16_8 b16_9 b16_10 b16_11 b17) (0 : Nat)).tmod (256 : Int)))]] ++ [[AV.int IntKind.u8 (IntKind.u8.wrap ((wQ (rn47_14_2 t5 b16_0 b16_1 b16_2 b16_3 b16_4 b16_5 b16_6 b16_7 b16_8 b16_9 b16_10 b16_11 b17) (3 : Nat)).tmod (256 : Int)))], [AV.int IntKind.u8 (IntKind.u8.wrap ((wQ (rn47_14_2 t5 b16_0 b16_1 b16_2 b16_3 b16_4 b16_5 b16_6 b16_7 b16_8 b16_9 b16_10 b16_11 b17) (2 : Nat)).tmod (256 : Int)))], [AV.int IntKind.u8 (IntKind.u8.wrap ((wQ (rn47_14_2 t5 b16_0 b16_1 b16_2 b16_3 b16_4 b16_5 b16_6 b16_7 b16_8 b16_9 b16_10 b16_11 b17) (1 : Nat)).tmod (256 : Int)))], [AV.int IntKind.u8 (IntKind.u8.wrap ((wQ (rn47_14_2 t5 b16_0 b16_1 b16_2 b16_3 b16_4 b16_5 b16_6 b16_7 b16_8 b16_9 b16_10 b16_11 b17) (0 : Nat)).tmod (256 : Int)))]])]) else none else none else none else none else some (Ex.exit (nat_lit 0), [AV.hp (nat_lit 16) (nat_lit 0), AV.rf (nat_lit 17) [Kd.int IntKind.u8]], [Blk.dead, Blk.dead, Blk.dead, Blk.dead, Blk.dead, Blk.dead, Blk.var [AV.int IntKind.u8 b16_0, AV.int IntKind.u8 b16_1, AV.int IntKind.i64 b16_2, AV.str b16_3, AV.int IntKind.i64 b16_4, AV.int IntKind.i64 b16_5, AV.bool b16_6, AV.int IntKind.u8 b16_7, AV.int IntKind.u32 b16_8, AV.int IntKind.i64 b16_9, AV.int IntKind.i64 b16_10, AV.sl Tk.imm [Kd.int IntKind.u16, Kd.int IntKind.u32] b16_11], Blk.row [Kd.int IntKind.u8] b17]) := by kernel_rfl
  rw [h]
  clear h
  unfold go47_14 nx47_14_0 nx47_14_13 xc47_14_0
  generalize (decide (((b17 ++ rn47_14_1 t5 b16_0 b16_1 b16_2 b16_3 b16_4 b16_5 b16_6 b16_7 b16_8 b16_9 b16_10 b16_11 b17).length + (wR (rn47_14_2 t5 b16_0 b16_1 b16_2 b16_3 b16_4 b16_5 b16_6 b16_7 b16_8 b16_9 b16_10 b16_11 b17) (4 : Int)).length) * (1 : Nat) ≤ (140737488355328 : Nat))) = c0
  generalize (decide ((b17 ++ rn47_14_1 t5 b16_0 b16_1 b16_2 b16_3 b16_4 b16_5 b16_6 b16_7 b16_8 b16_9 b16_10 b16_11 b17).length + (wR (rn47_14_2 t5 b16_0 b16_1 b16_2 b16_3 b16_4 b16_5 b16_6 b16_7 b16_8 b16_9 b16_10 b16_11 b17) (4 : Int)).length ≤ (9223372036854775807 : Nat))) = c1
  generalize (decide ((b17.length + (rn47_14_1 t5 b16_0 b16_1 b16_2 b16_3 b16_4 b16_5 b16_6 b16_7 b16_8 b16_9 b16_10 b16_11 b17).length) * (1 : Nat) ≤ (140737488355328 : Nat))) = c2
  generalize (decide (b17.length + (rn47_14_1 t5 b16_0 b16_1 b16_2 b16_3 b16_4 b16_5 b16_6 b16_7 b16_8 b16_9 b16_10 b16_11 b17).length ≤ (9223372036854775807 : Nat))) = c3
  generalize (decide ((0 : Int) ≤ t5) && decide (t5 < (↑b16_11.length : Int))) = c4
  generalize (decide (t5 < (↑b16_11.length : Int))) = c5
  cases c5; rfl; cases c4; rfl; cases c2; rfl; cases c3; rfl; cases c0; rfl; cases c1; rfl; rfl
abbrev pl47_14 : Type := Int × Int × Int × (List UInt8) × Int × Int × Bool × Int × Int × Int × Int × (List (List AV))
abbrev sl47_14 : Type := Int × (List (List AV))
noncomputable def vt47_14 (a : pl47_14 × sl47_14) : List AV := [AV.hp (nat_lit 16) (nat_lit 0), AV.rf (nat_lit 17) [Kd.int IntKind.u8], AV.int IntKind.i64 a.2.1]
noncomputable def vc47_14 (a : pl47_14 × sl47_14) : List Blk := [Blk.dead, Blk.dead, Blk.dead, Blk.dead, Blk.dead, Blk.dead, Blk.var [AV.int IntKind.u8 a.1.1, AV.int IntKind.u8 a.1.2.1, AV.int IntKind.i64 a.1.2.2.1, AV.str a.1.2.2.2.1, AV.int IntKind.i64 a.1.2.2.2.2.1, AV.int IntKind.i64 a.1.2.2.2.2.2.1, AV.bool a.1.2.2.2.2.2.2.1, AV.int IntKind.u8 a.1.2.2.2.2.2.2.2.1, AV.int IntKind.u32 a.1.2.2.2.2.2.2.2.2.1, AV.int IntKind.i64 a.1.2.2.2.2.2.2.2.2.2.1, AV.int IntKind.i64 a.1.2.2.2.2.2.2.2.2.2.2.1, AV.sl Tk.imm [Kd.int IntKind.u16, Kd.int IntKind.u32] a.1.2.2.2.2.2.2.2.2.2.2.2], Blk.row [Kd.int IntKind.u8] a.2.2]
noncomputable def de47_14 (vt : List AV) (vc : List Blk) : Option (pl47_14 × sl47_14) :=
  match vt with
  | [qa0, qa1, qa2] => (match vc with
  | [qb0, qb1, qb2, qb3, qb4, qb5, qb6, qb7] => (match qa0 with
  | AV.hp (16) (0) => (match qa1 with
  | AV.rf (17) [Kd.int IntKind.u8] => (match qa2 with
  | AV.int IntKind.i64 t5 => (match qb0 with
  | Blk.dead => (match qb1 with
  | Blk.dead => (match qb2 with
  | Blk.dead => (match qb3 with
  | Blk.dead => (match qb4 with
  | Blk.dead => (match qb5 with
  | Blk.dead => (match qb6 with
  | Blk.var [AV.int IntKind.u8 b16_0, AV.int IntKind.u8 b16_1, AV.int IntKind.i64 b16_2, AV.str b16_3, AV.int IntKind.i64 b16_4, AV.int IntKind.i64 b16_5, AV.bool b16_6, AV.int IntKind.u8 b16_7, AV.int IntKind.u32 b16_8, AV.int IntKind.i64 b16_9, AV.int IntKind.i64 b16_10, AV.sl Tk.imm [Kd.int IntKind.u16, Kd.int IntKind.u32] b16_11] => (match qb7 with
  | Blk.row [Kd.int IntKind.u8] b17 => (some ((b16_0, b16_1, b16_2, b16_3, b16_4, b16_5, b16_6, b16_7, b16_8, b16_9, b16_10, b16_11), (t5, b17)))
  | _ => none)
  | _ => none)
  | _ => none)
  | _ => none)
  | _ => none)
  | _ => none)
  | _ => none)
  | _ => none)
  | _ => none)
  | _ => none)
  | _ => none)
  | _ => none)
  | _ => none
theorem de47_14_ok (vt : List AV) (vc : List Blk) (a : pl47_14 × sl47_14) (h : de47_14 vt vc = some a) : vt = vt47_14 a ∧ vc = vc47_14 a := by
  unfold de47_14 at h
  split at h
  rotate_left
  · cases h
  split at h
  rotate_left
  · cases h
  split at h
  rotate_left
  · cases h
  split at h
  rotate_left
  · cases h
  split at h
  rotate_left
  · cases h
  split at h
  rotate_left
  · cases h
  split at h
  rotate_left
  · cases h
  split at h
  rotate_left
  · cases h
  split at h
  rotate_left
  · cases h
  split at h
  rotate_left
  · cases h
  split at h
  rotate_left
  · cases h
  split at h
  rotate_left
  · cases h
  split at h
  rotate_left
  · cases h
  injection h with h
  subst h
  exact ⟨rfl, rfl⟩
noncomputable def g47_14 (p : pl47_14) (s : sl47_14) : Bool := go47_14 s.1 p.1 p.2.1 p.2.2.1 p.2.2.2.1 p.2.2.2.2.1 p.2.2.2.2.2.1 p.2.2.2.2.2.2.1 p.2.2.2.2.2.2.2.1 p.2.2.2.2.2.2.2.2.1 p.2.2.2.2.2.2.2.2.2.1 p.2.2.2.2.2.2.2.2.2.2.1 p.2.2.2.2.2.2.2.2.2.2.2 s.2
noncomputable def n47_14 (p : pl47_14) (s : sl47_14) : sl47_14 := (nx47_14_0 s.1 p.1 p.2.1 p.2.2.1 p.2.2.2.1 p.2.2.2.2.1 p.2.2.2.2.2.1 p.2.2.2.2.2.2.1 p.2.2.2.2.2.2.2.1 p.2.2.2.2.2.2.2.2.1 p.2.2.2.2.2.2.2.2.2.1 p.2.2.2.2.2.2.2.2.2.2.1 p.2.2.2.2.2.2.2.2.2.2.2 s.2, nx47_14_13 s.1 p.1 p.2.1 p.2.2.1 p.2.2.2.1 p.2.2.2.2.1 p.2.2.2.2.2.1 p.2.2.2.2.2.2.1 p.2.2.2.2.2.2.2.1 p.2.2.2.2.2.2.2.2.1 p.2.2.2.2.2.2.2.2.2.1 p.2.2.2.2.2.2.2.2.2.2.1 p.2.2.2.2.2.2.2.2.2.2.2 s.2)
noncomputable def y47_14 (p : pl47_14) (s : sl47_14) : List (Bool × Out) := []
noncomputable def z47_14 (p : pl47_14) (s : sl47_14) : Bool := xc47_14_0 s.1 p.1 p.2.1 p.2.2.1 p.2.2.2.1 p.2.2.2.2.1 p.2.2.2.2.2.1 p.2.2.2.2.2.2.1 p.2.2.2.2.2.2.2.1 p.2.2.2.2.2.2.2.2.1 p.2.2.2.2.2.2.2.2.2.1 p.2.2.2.2.2.2.2.2.2.2.1 p.2.2.2.2.2.2.2.2.2.2.2 s.2
noncomputable def d47_14 (p : pl47_14) (s : sl47_14) : Out := (Ex.exit (nat_lit 0), [AV.hp (nat_lit 16) (nat_lit 0), AV.rf (nat_lit 17) [Kd.int IntKind.u8]], [Blk.dead, Blk.dead, Blk.dead, Blk.dead, Blk.dead, Blk.dead, Blk.var [AV.int IntKind.u8 p.1, AV.int IntKind.u8 p.2.1, AV.int IntKind.i64 p.2.2.1, AV.str p.2.2.2.1, AV.int IntKind.i64 p.2.2.2.2.1, AV.int IntKind.i64 p.2.2.2.2.2.1, AV.bool p.2.2.2.2.2.2.1, AV.int IntKind.u8 p.2.2.2.2.2.2.2.1, AV.int IntKind.u32 p.2.2.2.2.2.2.2.2.1, AV.int IntKind.i64 p.2.2.2.2.2.2.2.2.2.1, AV.int IntKind.i64 p.2.2.2.2.2.2.2.2.2.2.1, AV.sl Tk.imm [Kd.int IntKind.u16, Kd.int IntKind.u32] p.2.2.2.2.2.2.2.2.2.2.2], Blk.row [Kd.int IntKind.u8] s.2])
noncomputable def ls47_14 : St → Option (Bool × List (Bool × Ex × St) × Ex × St) := lspOf [1, 3, 5] [3, 7, 9, 11, 13, 15, 16, 17] [1, 3] [3, 7, 9, 11, 13, 15, 16, 17] Try.f47.ntmps (0 + tab.nid 47) de47_14 (spI g47_14 n47_14 y47_14 z47_14 d47_14)
theorem lo47_14 (rest : Lsp) : LoopOK1 (cfg Try.prog tab 100000 (gk k69 30) (selL 14 ls47_14 rest) 47 0 Try.f47.ntmps) (loopAt Try.f47 14) := LoopOK1.iter (i := 14) (by kernel_rfl) [1, 3, 5] [3, 7, 9, 11, 13, 15, 16, 17] [1, 3] [3, 7, 9, 11, 13, 15, 16, 17] vt47_14 vc47_14 de47_14 g47_14 n47_14 y47_14 z47_14 d47_14 (fun _ => rfl) de47_14_ok (fun p s => rd47_14 (selL 14 ls47_14 rest) (s.1) (p.1) (p.2.1) (p.2.2.1) (p.2.2.2.1) (p.2.2.2.2.1) (p.2.2.2.2.2.1) (p.2.2.2.2.2.2.1) (p.2.2.2.2.2.2.2.1) (p.2.2.2.2.2.2.2.2.1) (p.2.2.2.2.2.2.2.2.2.1) (p.2.2.2.2.2.2.2.2.2.2.1) (p.2.2.2.2.2.2.2.2.2.2.2) (s.2)) (fun _ _ => rfl)
noncomputable def lsp47 : Lsp := (selL 14 ls47_14 noLsp)
theorem loops47 : ∀ c, Try.f47.body = some c → LoopsOK (cfg Try.prog tab 100000 (gk k69 30) lsp47 47 0 Try.f47.ntmps) c := loops_of [14] (by kernel_rfl) (by kernel_rfl) (fun i hi => by
  simp only [List.mem_cons, List.not_mem_nil, or_false] at hi
  subst hi
  · exact lo47_14 noLsp)
end Go.Proofs.Gv
