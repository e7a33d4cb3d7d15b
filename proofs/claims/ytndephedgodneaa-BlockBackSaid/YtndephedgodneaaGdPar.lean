import Derived.Test.YtndephedgodneaaGt
import Derived.KernelRfl
import Derived.Test.YtndephedgodneaaGsPar
import Derived.Test.YtndephedgodneaaGcBlk
namespace Go.Proofs.Gv
open Go.Proofs
set_option linter.unusedVariables false
noncomputable def vev32_0 (n : Int) (bs : List (List AV)) (e : Bool) (m : Int) : List (List AV) := bif decide (n < (1 : Int)) then [] else bif decide (n > (2147483647 : Int)) then [] else bif decide (m < (1 : Int)) then [] else bif decide (m > (16384 : Int)) then [] else bif decide ((↑bs.length : Int) > (4096 : Int)) then [] else [] ++ all32 n m e bs true
noncomputable def vev32_1 (n : Int) (bs : List (List AV)) (e : Bool) (m : Int) : Int := bif decide (n < (1 : Int)) then (8 : Int) else bif decide (n > (2147483647 : Int)) then (8 : Int) else bif decide (m < (1 : Int)) then (8 : Int) else bif decide (m > (16384 : Int)) then (8 : Int) else bif decide ((↑bs.length : Int) > (4096 : Int)) then (5 : Int) else (0 : Int)
noncomputable def vev32_2 (n : Int) (bs : List (List AV)) (e : Bool) (m : Int) : Bool := bif decide (n < (1 : Int)) then true else bif decide (n > (2147483647 : Int)) then true else bif decide (m < (1 : Int)) then true else bif decide (m > (16384 : Int)) then true else bif decide ((↑bs.length : Int) > (4096 : Int)) then true else bif (sp32L (n, bs, e, m, [], true)).fst then true else false
theorem ev32 (n : Int) (bs : List (List AV)) (e : Bool) (m : Int) : evFin (cfg Try.prog tab 100000 (gk k31 30) lsp32 32 ([] : List Blk).length Try.f32.ntmps) ([] : List Blk).length Try.f32.resultTypes.toList Try.f32 [.int .i64 n, .sl .imm [.int .u8] bs, .bool e, .int .i64 m] [] = bif vev32_2 n bs e m then some (true, AV.tup [AV.sl Tk.imm [Kd.int IntKind.u8, Kd.int IntKind.u8, Kd.int IntKind.i64, Kd.str, Kd.int IntKind.i64, Kd.int IntKind.i64, Kd.bool, Kd.int IntKind.u8, Kd.int IntKind.u32, Kd.int IntKind.i64, Kd.int IntKind.i64, Kd.sl [Kd.int IntKind.u16, Kd.int IntKind.u32]] (vev32_0 n bs e m), AV.int IntKind.i64 (vev32_1 n bs e m)], []) else none := by
  have h : evFin (cfg Try.prog tab 100000 (gk k31 30) lsp32 32 ([] : List Blk).length Try.f32.ntmps) ([] : List Blk).length Try.f32.resultTypes.toList Try.f32 [.int .i64 n, .sl .imm [.int .u8] bs, .bool e, .int .i64 m] [] = bif decide (n < (1 : Int)) then bif decide (n < (1 : Int)) then some (true, AV.tup [AV.sl Tk.imm [Kd.int IntKind.u8, Kd.int IntKind.u8, Kd.int IntKind.i64, Kd.str, Kd.int IntKind.i64, Kd.int IntKind.i64, Kd.bool, Kd.int IntKind.u8, Kd.int IntKind.u32, Kd.int IntKind.i64, Kd.int IntKind.i64, Kd.sl [Kd.int IntKind.u16, Kd.int IntKind.u32]] [], AV.int IntKind.i64 (8 : Int)], []) else bif decide ((↑bs.length : Int) > (4096 : Int)) then some (true, AV.tup [AV.sl Tk.imm [Kd.int IntKind.u8, Kd.int IntKind.u8, Kd.int IntKind.i64, Kd.str, Kd.int IntKind.i64, Kd.int IntKind.i64, Kd.bool, Kd.int IntKind.u8, Kd.int IntKind.u32, Kd.int IntKind.i64, Kd.int IntKind.i64, Kd.sl [Kd.int IntKind.u16, Kd.int IntKind.u32]] [], AV.int IntKind.i64 (5 : Int)], []) else bif (sp32L (n, bs, e, m, [], true)).fst then some (true, AV.tup [AV.sl Tk.imm [Kd.int IntKind.u8, Kd.int IntKind.u8, Kd.int IntKind.i64, Kd.str, Kd.int IntKind.i64, Kd.int IntKind.i64, Kd.bool, Kd.int IntKind.u8, Kd.int IntKind.u32, Kd.int IntKind.i64, Kd.int IntKind.i64, Kd.sl [Kd.int IntKind.u16, Kd.int IntKind.u32]] ([] ++ all32 n m e bs true), AV.int IntKind.i64 (0 : Int)], []) else none else bif decide (n > (2147483647 : Int)) then bif decide (n > (2147483647 : Int)) then some (true, AV.tup [AV.sl Tk.imm [Kd.int IntKind.u8, Kd.int IntKind.u8, Kd.int IntKind.i64, Kd.str, Kd.int IntKind.i64, Kd.int IntKind.i64, Kd.bool, Kd.int IntKind.u8, Kd.int IntKind.u32, Kd.int IntKind.i64, Kd.int IntKind.i64, Kd.sl [Kd.int IntKind.u16, Kd.int IntKind.u32]] [], AV.int IntKind.i64 (8 : Int)], []) else bif decide ((↑bs.length : Int) > (4096 : Int)) then some (true, AV.tup [AV.sl Tk.imm [Kd.int IntKind.u8, Kd.int IntKind.u8, Kd.int IntKind.i64, Kd.str, Kd.int IntKind.i64, Kd.int IntKind.i64, Kd.bool, Kd.int IntKind.u8, Kd.int IntKind.u32, Kd.int IntKind.i64, Kd.int IntKind.i64, Kd.sl [Kd.int IntKind.u16, Kd.int IntKind.u32]] [], AV.int IntKind.i64 (5 : Int)], []) else bif (sp32L (n, bs, e, m, [], true)).fst then some (true, AV.tup [AV.sl Tk.imm [Kd.int IntKind.u8, Kd.int IntKind.u8, Kd.int IntKind.i64, Kd.str, Kd.int IntKind.i64, Kd.int IntKind.i64, Kd.bool, Kd.int IntKind.u8, Kd.int IntKind.u32, Kd.int IntKind.i64, Kd.int IntKind.i64, Kd.sl [Kd.int IntKind.u16, Kd.int IntKind.u32]] ([] ++ all32 n m e bs true), AV.int IntKind.i64 (0 : Int)], []) else none else bif decide (m < (1 : Int)) then bif decide (m < (1 : Int)) then some (true, AV.tup [AV.sl Tk.imm [Kd.int IntKind.u8, Kd.int IntKind.u8, Kd.int IntKind.i64, Kd.str, Kd.int IntKind.i64, Kd.int IntKind.i64, Kd.bool, Kd.int IntKind.u8, Kd.int IntKind.u32, Kd.int IntKind.i64, Kd.int IntKind.i64, Kd.sl [Kd.int IntKind.u16, Kd.int IntKind.u32]] [], AV.int IntKind.i64 (8 : Int)], []) else bif decide ((↑bs.length : Int) > (4096 : Int)) then some (true, AV.tup [AV.sl Tk.imm [Kd.int IntKind.u8, Kd.int IntKind.u8, Kd.int IntKind.i64, Kd.str, Kd.int IntKind.i64, Kd.int IntKind.i64, Kd.bool, Kd.int IntKind.u8, Kd.int IntKind.u32, Kd.int IntKind.i64, Kd.int IntKind.i64, Kd.sl [Kd.int IntKind.u16, Kd.int IntKind.u32]] [], AV.int IntKind.i64 (5 : Int)], []) else bif (sp32L (n, bs, e, m, [], true)).fst then some (true, AV.tup [AV.sl Tk.imm [Kd.int IntKind.u8, Kd.int IntKind.u8, Kd.int IntKind.i64, Kd.str, Kd.int IntKind.i64, Kd.int IntKind.i64, Kd.bool, Kd.int IntKind.u8, Kd.int IntKind.u32, Kd.int IntKind.i64, Kd.int IntKind.i64, Kd.sl [Kd.int IntKind.u16, Kd.int IntKind.u32]] ([] ++ all32 n m e bs true), AV.int IntKind.i64 (0 : Int)], []) else none else bif decide (m > (16384 : Int)) then some (true, AV.tup [AV.sl Tk.imm [Kd.int IntKind.u8, Kd.int IntKind.u8, Kd.int IntKind.i64, Kd.str, Kd.int IntKind.i64, Kd.int IntKind.i64, Kd.bool, Kd.int IntKind.u8, Kd.int IntKind.u32, Kd.int IntKind.i64, Kd.int IntKind.i64, Kd.sl [Kd.int IntKind.u16, Kd.int IntKind.u32]] [], AV.int IntKind.i64 (8 : Int)], []) else bif decide ((↑bs.length : Int) > (4096 : Int)) then some (true, AV.tup [AV.sl Tk.imm [Kd.int IntKind.u8, Kd.int IntKind.u8, Kd.int IntKind.i64, Kd.str, Kd.int IntKind.i64, Kd.int IntKind.i64, Kd.bool, Kd.int IntKind.u8, Kd.int IntKind.u32, Kd.int IntKind.i64, Kd.int IntKind.i64, Kd.sl [Kd.int IntKind.u16, Kd.int IntKind.u32]] [], AV.int IntKind.i64 (5 : Int)], []) else bif (sp32L (n, bs, e, m, [], true)).fst then some (true, AV.tup [AV.sl Tk.imm [Kd.int IntKind.u8, Kd.int IntKind.u8, Kd.int IntKind.i64, Kd.str, Kd.int IntKind.i64, Kd.int IntKind.i64, Kd.bool, Kd.int IntKind.u8, Kd.int IntKind.u32, Kd.int IntKind.i64, Kd.int IntKind.i64, Kd.sl [Kd.int IntKind.u16, Kd.int IntKind.u32]] ([] ++ all32 n m e bs true), AV.int IntKind.i64 (0 : Int)], []) else none := by kernel_rfl
  rw [h]
  clear h
  unfold vev32_0 vev32_1 vev32_2
  generalize ((sp32L (n, bs, e, m, [], true)).fst) = c0
  generalize (decide ((↑bs.length : Int) > (4096 : Int))) = c1
  generalize (decide (n < (1 : Int))) = c2
  generalize (decide (m < (1 : Int))) = c3
  generalize (decide (m > (16384 : Int))) = c4
  generalize (decide (n > (2147483647 : Int))) = c5
  cases c2
  · skip
    cases c5
    · skip
      cases c3
      · skip
        cases c4
        · skip
          cases c1
          · skip
            cases c0
            · skip
              rfl
            · skip
              rfl
          · skip
            rfl
        · skip
          rfl
      · skip
        rfl
    · skip
      rfl
  · skip
    rfl
-- spec vev32_2 n bs e m ;; (true, AV.tup [AV.sl Tk.imm [Kd.int IntKind.u8, Kd.int IntKind.u8, Kd.int IntKind.i64, Kd.str, Kd.int IntKind.i64, Kd.int IntKind.i64, Kd.bool, Kd.int IntKind.u8, Kd.int IntKind.u32, Kd.int IntKind.i64, Kd.int IntKind.i64, Kd.sl [Kd.int IntKind.u16, Kd.int IntKind.u32]] (vev32_0 n bs e m), AV.int IntKind.i64 (vev32_1 n bs e m)], [])
noncomputable def sp32 : List AV → List Blk → Option (Bool × AV × List Blk)
  | [.int .i64 n, .sl .imm [.int .u8] bs, .bool e, .int .i64 m], [] => spW (vev32_2 n bs e m) (some ((true, AV.tup [AV.sl Tk.imm [Kd.int IntKind.u8, Kd.int IntKind.u8, Kd.int IntKind.i64, Kd.str, Kd.int IntKind.i64, Kd.int IntKind.i64, Kd.bool, Kd.int IntKind.u8, Kd.int IntKind.u32, Kd.int IntKind.i64, Kd.int IntKind.i64, Kd.sl [Kd.int IntKind.u16, Kd.int IntKind.u32]] (vev32_0 n bs e m), AV.int IntKind.i64 (vev32_1 n bs e m)], [])))
  | _, _ => none
noncomputable def k32 : Gam := fun f T C => match Nat.beq f 32 with
  | true => (sp32 T C).or (k31 f T C)
  | false => k31 f T C
theorem k32_ok : GamOK Try.prog k32 := by
  intro f T C r outs h
  unfold k32 at h
  cases hf : Nat.beq f 32 with
  | false => rw [hf] at h; exact k31_ok f T C r outs h
  | true =>
    have hf' := Nat.eq_of_beq_eq_true hf
    subst hf'
    rw [hf] at h
    dsimp only at h
    cases hs : sp32 T C with
    | none => rw [hs] at h; exact k31_ok _ T C r outs h
    | some x =>
      rw [hs] at h
      have hx : x = (true, r, outs) := by simpa using h
      subst hx
      unfold sp32 at hs
      split at hs
      · rename_i n bs e m
        obtain ⟨hb, rfl, rfl⟩ := spT_inv hs
        have he := ev32 n bs e m
        rw [hb, cond_true] at he
        obtain ⟨r0, o0, h0, he⟩ := evFin_inv he
        obtain ⟨h1, h2⟩ := fn_ok mixed plain (gk_ok k31_ok 30) Try.func32 (loops32 (gk k31 30)) h0
        exact ⟨h1, h2.fin he⟩
      · cases hs
noncomputable def vev33_0 (n : Int) (bs : List (List AV)) (e : Bool) (m : Int) : List (List AV) := bif bif decide (n < (1 : Int)) then true else bif decide (n > (2147483647 : Int)) then true else bif decide (m < (1 : Int)) then true else decide (m > (16384 : Int)) then [] else bif decide ((↑bs.length : Int) > (4096 : Int)) then [] else bif e then [] ++ rows33 n m (List.map byteOf bs).length (1 : Int) (1 : Int) (List.map byteOf bs) ++ [[AV.int IntKind.u8 (bif m.toNat.blt (List.map byteOf bs).length then (9 : Int) else (1 : Int)), AV.int IntKind.u8 (IntKind.u8.wrap ((bif m.toNat.blt (List.map byteOf bs).length then (0 : Int) else (1 : Int)) + (4 : Int))), AV.int IntKind.i64 n, AV.str (last33 m (List.map byteOf bs).length (List.map byteOf bs)), AV.int IntKind.i64 (0 : Int), AV.int IntKind.i64 (0 : Int), AV.bool false, AV.int IntKind.u8 (0 : Int), AV.int IntKind.u32 (0 : Int), AV.int IntKind.i64 (0 : Int), AV.int IntKind.i64 (0 : Int), AV.nil]] else [] ++ rows33 n m (List.map byteOf bs).length (1 : Int) (0 : Int) (List.map byteOf bs) ++ [[AV.int IntKind.u8 (bif m.toNat.blt (List.map byteOf bs).length then (9 : Int) else (1 : Int)), AV.int IntKind.u8 (IntKind.u8.wrap ((bif m.toNat.blt (List.map byteOf bs).length then (0 : Int) else (0 : Int)) + (4 : Int))), AV.int IntKind.i64 n, AV.str (last33 m (List.map byteOf bs).length (List.map byteOf bs)), AV.int IntKind.i64 (0 : Int), AV.int IntKind.i64 (0 : Int), AV.bool false, AV.int IntKind.u8 (0 : Int), AV.int IntKind.u32 (0 : Int), AV.int IntKind.i64 (0 : Int), AV.int IntKind.i64 (0 : Int), AV.nil]]
noncomputable def vev33_1 (n : Int) (bs : List (List AV)) (e : Bool) (m : Int) : Int := bif bif decide (n < (1 : Int)) then true else bif decide (n > (2147483647 : Int)) then true else bif decide (m < (1 : Int)) then true else decide (m > (16384 : Int)) then (8 : Int) else bif decide ((↑bs.length : Int) > (4096 : Int)) then (5 : Int) else (0 : Int)
noncomputable def vev33_2 (n : Int) (bs : List (List AV)) (e : Bool) (m : Int) : Bool := bif bif decide (n < (1 : Int)) then true else bif decide (n > (2147483647 : Int)) then true else bif decide (m < (1 : Int)) then true else decide (m > (16384 : Int)) then true else bif decide ((↑bs.length : Int) > (4096 : Int)) then true else bif e then bif bs.all isB then bif (sp33L (n, n, m, (1 : Int), (1 : Int), List.map byteOf bs, [])).fst then bif bif decide ((([] ++ rows33 n m (List.map byteOf bs).length (1 : Int) (1 : Int) (List.map byteOf bs)).length + (1 : Nat)) * (96 : Nat) ≤ (140737488355328 : Nat)) then decide (([] ++ rows33 n m (List.map byteOf bs).length (1 : Int) (1 : Int) (List.map byteOf bs)).length + (1 : Nat) ≤ (9223372036854775807 : Nat)) else false then true else false else false else false else bif bs.all isB then bif (sp33L (n, n, m, (1 : Int), (0 : Int), List.map byteOf bs, [])).fst then bif bif decide ((([] ++ rows33 n m (List.map byteOf bs).length (1 : Int) (0 : Int) (List.map byteOf bs)).length + (1 : Nat)) * (96 : Nat) ≤ (140737488355328 : Nat)) then decide (([] ++ rows33 n m (List.map byteOf bs).length (1 : Int) (0 : Int) (List.map byteOf bs)).length + (1 : Nat) ≤ (9223372036854775807 : Nat)) else false then true else false else false else false
theorem ev33 (n : Int) (bs : List (List AV)) (e : Bool) (m : Int) : evFin (cfg Try.prog tab 100000 (gk k32 30) lsp33 33 ([] : List Blk).length Try.f33.ntmps) ([] : List Blk).length Try.f33.resultTypes.toList Try.f33 [.int .i64 n, .sl .imm [.int .u8] bs, .bool e, .int .i64 m] [] = bif vev33_2 n bs e m then some (true, AV.tup [AV.sl Tk.imm [Kd.int IntKind.u8, Kd.int IntKind.u8, Kd.int IntKind.i64, Kd.str, Kd.int IntKind.i64, Kd.int IntKind.i64, Kd.bool, Kd.int IntKind.u8, Kd.int IntKind.u32, Kd.int IntKind.i64, Kd.int IntKind.i64, Kd.sl [Kd.int IntKind.u16, Kd.int IntKind.u32]] (vev33_0 n bs e m), AV.int IntKind.i64 (vev33_1 n bs e m)], []) else none := by
  have h : evFin (cfg Try.prog tab 100000 (gk k32 30) lsp33 33 ([] : List Blk).length Try.f33.ntmps) ([] : List Blk).length Try.f33.resultTypes.toList Try.f33 [.int .i64 n, .sl .imm [.int .u8] bs, .bool e, .int .i64 m] [] = bif bif decide (n < (1 : Int)) then true else bif bif false then true else decide (n > (2147483647 : Int)) then true else bif bif false then true else decide (m < (1 : Int)) then true else true then bif bif decide (n < (1 : Int)) then true else bif bif false then true else decide (n > (2147483647 : Int)) then true else bif bif false then true else decide (m < (1 : Int)) then true else bif false then true else decide (m > (16384 : Int)) then some (true, AV.tup [AV.sl Tk.imm [Kd.int IntKind.u8, Kd.int IntKind.u8, Kd.int IntKind.i64, Kd.str, Kd.int IntKind.i64, Kd.int IntKind.i64, Kd.bool, Kd.int IntKind.u8, Kd.int IntKind.u32, Kd.int IntKind.i64, Kd.int IntKind.i64, Kd.sl [Kd.int IntKind.u16, Kd.int IntKind.u32]] [], AV.int IntKind.i64 (8 : Int)], []) else bif decide ((↑bs.length : Int) > (4096 : Int)) then some (true, AV.tup [AV.sl Tk.imm [Kd.int IntKind.u8, Kd.int IntKind.u8, Kd.int IntKind.i64, Kd.str, Kd.int IntKind.i64, Kd.int IntKind.i64, Kd.bool, Kd.int IntKind.u8, Kd.int IntKind.u32, Kd.int IntKind.i64, Kd.int IntKind.i64, Kd.sl [Kd.int IntKind.u16, Kd.int IntKind.u32]] [], AV.int IntKind.i64 (5 : Int)], []) else bif e then bif bs.all isB then bif (sp33L (n, n, m, (1 : Int), (1 : Int), List.map byteOf bs, [])).fst then bif bif decide ((([] ++ rows33 n m (List.map byteOf bs).length (1 : Int) (1 : Int) (List.map byteOf bs)).length + (1 : Nat)) * (96 : Nat) ≤ (140737488355328 : Nat)) then decide (([] ++ rows33 n m (List.map byteOf bs).length (1 : Int) (1 : Int) (List.map byteOf bs)).length + (1 : Nat) ≤ (9223372036854775807 : Nat)) else false then some (true, AV.tup [AV.sl Tk.imm [Kd.int IntKind.u8, Kd.int IntKind.u8, Kd.int IntKind.i64, Kd.str, Kd.int IntKind.i64, Kd.int IntKind.i64, Kd.bool, Kd.int IntKind.u8, Kd.int IntKind.u32, Kd.int IntKind.i64, Kd.int IntKind.i64, Kd.sl [Kd.int IntKind.u16, Kd.int IntKind.u32]] ([] ++ rows33 n m (List.map byteOf bs).length (1 : Int) (1 : Int) (List.map byteOf bs) ++ [[AV.int IntKind.u8 (bif m.toNat.blt (List.map byteOf bs).length then (9 : Int) else (1 : Int)), AV.int IntKind.u8 (IntKind.u8.wrap ((bif m.toNat.blt (List.map byteOf bs).length then (0 : Int) else (1 : Int)) + (4 : Int))), AV.int IntKind.i64 n, AV.str (last33 m (List.map byteOf bs).length (List.map byteOf bs)), AV.int IntKind.i64 (0 : Int), AV.int IntKind.i64 (0 : Int), AV.bool false, AV.int IntKind.u8 (0 : Int), AV.int IntKind.u32 (0 : Int), AV.int IntKind.i64 (0 : Int), AV.int IntKind.i64 (0 : Int), AV.nil]]), AV.int IntKind.i64 (0 : Int)], []) else none else none else none else bif bs.all isB then bif (sp33L (n, n, m, (1 : Int), (0 : Int), List.map byteOf bs, [])).fst then bif bif decide ((([] ++ rows33 n m (List.map byteOf bs).length (1 : Int) (0 : Int) (List.map byteOf bs)).length + (1 : Nat)) * (96 : Nat) ≤ (140737488355328 : Nat)) then decide (([] ++ rows33 n m (List.map byteOf bs).length (1 : Int) (0 : Int) (List.map byteOf bs)).length + (1 : Nat) ≤ (9223372036854775807 : Nat)) else false then some (true, AV.tup [AV.sl Tk.imm [Kd.int IntKind.u8, Kd.int IntKind.u8, Kd.int IntKind.i64, Kd.str, Kd.int IntKind.i64, Kd.int IntKind.i64, Kd.bool, Kd.int IntKind.u8, Kd.int IntKind.u32, Kd.int IntKind.i64, Kd.int IntKind.i64, Kd.sl [Kd.int IntKind.u16, Kd.int IntKind.u32]] ([] ++ rows33 n m (List.map byteOf bs).length (1 : Int) (0 : Int) (List.map byteOf bs) ++ [[AV.int IntKind.u8 (bif m.toNat.blt (List.map byteOf bs).length then (9 : Int) else (1 : Int)), AV.int IntKind.u8 (IntKind.u8.wrap ((bif m.toNat.blt (List.map byteOf bs).length then (0 : Int) else (0 : Int)) + (4 : Int))), AV.int IntKind.i64 n, AV.str (last33 m (List.map byteOf bs).length (List.map byteOf bs)), AV.int IntKind.i64 (0 : Int), AV.int IntKind.i64 (0 : Int), AV.bool false, AV.int IntKind.u8 (0 : Int), AV.int IntKind.u32 (0 : Int), AV.int IntKind.i64 (0 : Int), AV.int IntKind.i64 (0 : Int), AV.nil]]), AV.int IntKind.i64 (0 : Int)], []) else none else none else none else none := by kernel_rfl
  rw [h]
  clear h
  unfold vev33_0 vev33_1 vev33_2
  generalize (decide ((([] ++ rows33 n m (List.map byteOf bs).length (1 : Int) (0 : Int) (List.map byteOf bs)).length + (1 : Nat)) * (96 : Nat) ≤ (140737488355328 : Nat))) = c0
  generalize (decide ((([] ++ rows33 n m (List.map byteOf bs).length (1 : Int) (1 : Int) (List.map byteOf bs)).length + (1 : Nat)) * (96 : Nat) ≤ (140737488355328 : Nat))) = c1
  generalize (decide (([] ++ rows33 n m (List.map byteOf bs).length (1 : Int) (0 : Int) (List.map byteOf bs)).length + (1 : Nat) ≤ (9223372036854775807 : Nat))) = c2
  generalize (decide (([] ++ rows33 n m (List.map byteOf bs).length (1 : Int) (1 : Int) (List.map byteOf bs)).length + (1 : Nat) ≤ (9223372036854775807 : Nat))) = c3
  generalize ((sp33L (n, n, m, (1 : Int), (1 : Int), List.map byteOf bs, [])).fst) = c4
  generalize ((sp33L (n, n, m, (1 : Int), (0 : Int), List.map byteOf bs, [])).fst) = c5
  generalize (decide ((↑bs.length : Int) > (4096 : Int))) = c6
  generalize (decide (n < (1 : Int))) = c7
  generalize (decide (m < (1 : Int))) = c8
  generalize (decide (m > (16384 : Int))) = c9
  generalize (decide (n > (2147483647 : Int))) = c10
  generalize (bs.all isB) = c11
  generalize (e) = c12
  cases c7
  · skip
    cases c10
    · skip
      cases c8
      · skip
        cases c9
        · skip
          cases c6
          · skip
            cases c12
            · skip
              cases c11
              · skip
                rfl
              · skip
                cases c5
                · skip
                  rfl
                · skip
                  cases c0
                  · skip
                    rfl
                  · skip
                    cases c2
                    · skip
                      rfl
                    · skip
                      rfl
            · skip
              cases c11
              · skip
                rfl
              · skip
                cases c4
                · skip
                  rfl
                · skip
                  cases c1
                  · skip
                    rfl
                  · skip
                    cases c3
                    · skip
                      rfl
                    · skip
                      rfl
          · skip
            rfl
        · skip
          rfl
      · skip
        rfl
    · skip
      rfl
  · skip
    rfl
-- spec vev33_2 n bs e m ;; (true, AV.tup [AV.sl Tk.imm [Kd.int IntKind.u8, Kd.int IntKind.u8, Kd.int IntKind.i64, Kd.str, Kd.int IntKind.i64, Kd.int IntKind.i64, Kd.bool, Kd.int IntKind.u8, Kd.int IntKind.u32, Kd.int IntKind.i64, Kd.int IntKind.i64, Kd.sl [Kd.int IntKind.u16, Kd.int IntKind.u32]] (vev33_0 n bs e m), AV.int IntKind.i64 (vev33_1 n bs e m)], [])
noncomputable def sp33 : List AV → List Blk → Option (Bool × AV × List Blk)
  | [.int .i64 n, .sl .imm [.int .u8] bs, .bool e, .int .i64 m], [] => spW (vev33_2 n bs e m) (some ((true, AV.tup [AV.sl Tk.imm [Kd.int IntKind.u8, Kd.int IntKind.u8, Kd.int IntKind.i64, Kd.str, Kd.int IntKind.i64, Kd.int IntKind.i64, Kd.bool, Kd.int IntKind.u8, Kd.int IntKind.u32, Kd.int IntKind.i64, Kd.int IntKind.i64, Kd.sl [Kd.int IntKind.u16, Kd.int IntKind.u32]] (vev33_0 n bs e m), AV.int IntKind.i64 (vev33_1 n bs e m)], [])))
  | _, _ => none
noncomputable def k33 : Gam := fun f T C => match Nat.beq f 33 with
  | true => (sp33 T C).or (k32 f T C)
  | false => k32 f T C
theorem k33_ok : GamOK Try.prog k33 := by
  intro f T C r outs h
  unfold k33 at h
  cases hf : Nat.beq f 33 with
  | false => rw [hf] at h; exact k32_ok f T C r outs h
  | true =>
    have hf' := Nat.eq_of_beq_eq_true hf
    subst hf'
    rw [hf] at h
    dsimp only at h
    cases hs : sp33 T C with
    | none => rw [hs] at h; exact k32_ok _ T C r outs h
    | some x =>
      rw [hs] at h
      have hx : x = (true, r, outs) := by simpa using h
      subst hx
      unfold sp33 at hs
      split at hs
      · rename_i n bs e m
        obtain ⟨hb, rfl, rfl⟩ := spT_inv hs
        have he := ev33 n bs e m
        rw [hb, cond_true] at he
        obtain ⟨r0, o0, h0, he⟩ := evFin_inv he
        obtain ⟨h1, h2⟩ := fn_ok mixed plain (gk_ok k32_ok 30) Try.func33 (loops33 (gk k32 30)) h0
        exact ⟨h1, h2.fin he⟩
      · cases hs
noncomputable def vev44_0 (ps : List (List AV)) (qs : List (List AV)) : Bool := bif (↑ps.length : Int) != (↑qs.length : Int) then false else bif missP (List.drop (nat_lit 0) ps) (List.drop (nat_lit 0) qs) then false else true
noncomputable def vev44_1 (ps : List (List AV)) (qs : List (List AV)) : Bool := bif (↑ps.length : Int) != (↑qs.length : Int) then true else bif (sp44L (ps, qs, nat_lit 0)).fst then true else false
theorem ev44 (ps : List (List AV)) (qs : List (List AV)) : evFun (cfg Try.prog tab 100000 (gk k33 30) lsp44 44 ([] : List Blk).length Try.f44.ntmps) Try.f44 [.sl .imm [.int .u16, .int .u32] ps, .sl .imm [.int .u16, .int .u32] qs] [] = bif vev44_1 ps qs then some (AV.bool (vev44_0 ps qs), []) else none := by
  have h : evFun (cfg Try.prog tab 100000 (gk k33 30) lsp44 44 ([] : List Blk).length Try.f44.ntmps) Try.f44 [.sl .imm [.int .u16, .int .u32] ps, .sl .imm [.int .u16, .int .u32] qs] [] = bif (↑ps.length : Int) != (↑qs.length : Int) then some (AV.bool false, []) else bif (sp44L (ps, qs, nat_lit 0)).fst then bif missP (List.drop (nat_lit 0) ps) (List.drop (nat_lit 0) qs) then some (AV.bool false, []) else some (AV.bool true, []) else none := by kernel_rfl
  rw [h]
  clear h
  unfold vev44_0 vev44_1
  generalize ((sp44L (ps, qs, nat_lit 0)).fst) = c0
  generalize ((↑ps.length : Int) != (↑qs.length : Int)) = c1
  generalize (missP (List.drop (nat_lit 0) ps) (List.drop (nat_lit 0) qs)) = c2
  cases c1
  · skip
    cases c0
    · skip
      rfl
    · skip
      cases c2
      · skip
        rfl
      · skip
        rfl
  · skip
    rfl
-- spec vev44_1 ps qs ;; (AV.bool (vev44_0 ps qs), [])
noncomputable def sp44 : List AV → List Blk → Option (Bool × AV × List Blk)
  | [.sl .imm [.int .u16, .int .u32] ps, .sl .imm [.int .u16, .int .u32] qs], [] => spW (vev44_1 ps qs) (fin Try.prog (tab.frz 44) ([] : List Blk).length Try.f44.resultTypes.toList (some ((AV.bool (vev44_0 ps qs), []))))
  | _, _ => none
noncomputable def k44 : Gam := fun f T C => match Nat.beq f 44 with
  | true => (sp44 T C).or (k33 f T C)
  | false => k33 f T C
theorem k44_ok : GamOK Try.prog k44 := by
  intro f T C r outs h
  unfold k44 at h
  cases hf : Nat.beq f 44 with
  | false => rw [hf] at h; exact k33_ok f T C r outs h
  | true =>
    have hf' := Nat.eq_of_beq_eq_true hf
    subst hf'
    rw [hf] at h
    dsimp only at h
    cases hs : sp44 T C with
    | none => rw [hs] at h; exact k33_ok _ T C r outs h
    | some x =>
      rw [hs] at h
      have hx : x = (true, r, outs) := by simpa using h
      subst hx
      unfold sp44 at hs
      split at hs
      · rename_i ps qs
        obtain ⟨hb, hs⟩ := spW_inv hs
        have he := ev44 ps qs
        rw [hb, cond_true] at he
        obtain ⟨h1, h2⟩ := fn_ok mixed plain (gk_ok k33_ok 30) Try.func44 (loops44 (gk k33 30)) he
        exact ⟨h1, h2.fin hs⟩
      · cases hs
noncomputable def vev14_0 (t1 : Int) (g1 : Int) (n1 : Int) (d1 : List UInt8) (pa1 : Int) (de1 : Int) (so1 : Bool) (we1 : Int) (co1 : Int) (la1 : Int) (inc1 : Int) (ps1 : List (List AV)) (t2 : Int) (g2 : Int) (n2 : Int) (d2 : List UInt8) (pa2 : Int) (de2 : Int) (so2 : Bool) (we2 : Int) (co2 : Int) (la2 : Int) (inc2 : Int) (ps2 : List (List AV)) : Bool := bif t1 == t2 then bif bif true then g1 == g2 else false then bif bif true then n1 == n2 else false then bif bif true then d1 == d2 else false then bif bif true then pa1 == pa2 else false then bif bif true then de1 == de2 else false then bif bif true then so1 == so2 else false then bif bif true then we1 == we2 else false then bif bif true then co1 == co2 else false then bif bif true then la1 == la2 else false then bif bif true then inc1 == inc2 else false then bif vev44_1 ps1 ps2 then bif true then vev44_0 ps1 ps2 else false else false else false else false else false else false else false else false else false else false else false else false else false
noncomputable def vev14_1 (t1 : Int) (g1 : Int) (n1 : Int) (d1 : List UInt8) (pa1 : Int) (de1 : Int) (so1 : Bool) (we1 : Int) (co1 : Int) (la1 : Int) (inc1 : Int) (ps1 : List (List AV)) (t2 : Int) (g2 : Int) (n2 : Int) (d2 : List UInt8) (pa2 : Int) (de2 : Int) (so2 : Bool) (we2 : Int) (co2 : Int) (la2 : Int) (inc2 : Int) (ps2 : List (List AV)) : Bool := bif bif t1 == t2 then bif g1 == g2 then bif n1 == n2 then bif d1 == d2 then bif pa1 == pa2 then bif de1 == de2 then bif so1 == so2 then bif we1 == we2 then bif co1 == co2 then bif la1 == la2 then bif inc1 == inc2 then vev44_1 ps1 ps2 else true else true else true else true else true else true else true else true else true else true else true then true else false
theorem ev14 (t1 : Int) (g1 : Int) (n1 : Int) (d1 : List UInt8) (pa1 : Int) (de1 : Int) (so1 : Bool) (we1 : Int) (co1 : Int) (la1 : Int) (inc1 : Int) (ps1 : List (List AV)) (t2 : Int) (g2 : Int) (n2 : Int) (d2 : List UInt8) (pa2 : Int) (de2 : Int) (so2 : Bool) (we2 : Int) (co2 : Int) (la2 : Int) (inc2 : Int) (ps2 : List (List AV)) : evFun (cfg Try.prog tab 100000 (gk k44 30) noLsp 14 ([] : List Blk).length Try.f14.ntmps) Try.f14 [.agg [.int .u8 t1, .int .u8 g1, .int .i64 n1, .str d1, .int .i64 pa1, .int .i64 de1, .bool so1, .int .u8 we1, .int .u32 co1, .int .i64 la1, .int .i64 inc1, .sl .imm [.int .u16, .int .u32] ps1], .agg [.int .u8 t2, .int .u8 g2, .int .i64 n2, .str d2, .int .i64 pa2, .int .i64 de2, .bool so2, .int .u8 we2, .int .u32 co2, .int .i64 la2, .int .i64 inc2, .sl .imm [.int .u16, .int .u32] ps2]] [] = bif vev14_1 t1 g1 n1 d1 pa1 de1 so1 we1 co1 la1 inc1 ps1 t2 g2 n2 d2 pa2 de2 so2 we2 co2 la2 inc2 ps2 then some (AV.bool (vev14_0 t1 g1 n1 d1 pa1 de1 so1 we1 co1 la1 inc1 ps1 t2 g2 n2 d2 pa2 de2 so2 we2 co2 la2 inc2 ps2), []) else none := by
  have h : evFun (cfg Try.prog tab 100000 (gk k44 30) noLsp 14 ([] : List Blk).length Try.f14.ntmps) Try.f14 [.agg [.int .u8 t1, .int .u8 g1, .int .i64 n1, .str d1, .int .i64 pa1, .int .i64 de1, .bool so1, .int .u8 we1, .int .u32 co1, .int .i64 la1, .int .i64 inc1, .sl .imm [.int .u16, .int .u32] ps1], .agg [.int .u8 t2, .int .u8 g2, .int .i64 n2, .str d2, .int .i64 pa2, .int .i64 de2, .bool so2, .int .u8 we2, .int .u32 co2, .int .i64 la2, .int .i64 inc2, .sl .imm [.int .u16, .int .u32] ps2]] [] = bif bif t1 == t2 then bif bif true then g1 == g2 else false then bif bif true then n1 == n2 else false then bif bif true then d1 == d2 else false then bif bif true then pa1 == pa2 else false then bif bif true then de1 == de2 else false then bif bif true then so1 == so2 else false then bif bif true then we1 == we2 else false then bif bif true then co1 == co2 else false then bif bif true then la1 == la2 else false then bif bif true then inc1 == inc2 else false then bif vev44_1 ps1 ps2 then true else false else true else true else true else true else true else true else true else true else true else true else true then some (AV.bool (bif t1 == t2 then bif bif true then g1 == g2 else false then bif bif true then n1 == n2 else false then bif bif true then d1 == d2 else false then bif bif true then pa1 == pa2 else false then bif bif true then de1 == de2 else false then bif bif true then so1 == so2 else false then bif bif true then we1 == we2 else false then bif bif true then co1 == co2 else false then bif bif true then la1 == la2 else false then bif bif true then inc1 == inc2 else false then bif vev44_1 ps1 ps2 then bif true then vev44_0 ps1 ps2 else false else false else false else false else false else false else false else false else false else false else false else false else false), []) else none := by kernel_rfl
  rw [h]
  clear h
  unfold vev14_0 vev14_1
  generalize (d1 == d2) = c0
  generalize (de1 == de2) = c1
  generalize (g1 == g2) = c2
  generalize (n1 == n2) = c3
  generalize (t1 == t2) = c4
  generalize (pa1 == pa2) = c5
  generalize (co1 == co2) = c6
  generalize (so1 == so2) = c7
  generalize (we1 == we2) = c8
  generalize (la1 == la2) = c9
  generalize (inc1 == inc2) = c10
  generalize (vev44_1 ps1 ps2) = c11
  cases c4
  · skip
    rfl
  · skip
    cases c2
    · skip
      rfl
    · skip
      cases c3
      · skip
        rfl
      · skip
        cases c0
        · skip
          rfl
        · skip
          cases c5
          · skip
            rfl
          · skip
            cases c1
            · skip
              rfl
            · skip
              cases c7
              · skip
                rfl
              · skip
                cases c8
                · skip
                  rfl
                · skip
                  cases c6
                  · skip
                    rfl
                  · skip
                    cases c9
                    · skip
                      rfl
                    · skip
                      cases c10
                      · skip
                        rfl
                      · skip
                        cases c11
                        · skip
                          rfl
                        · skip
                          rfl
-- spec vev14_1 t1 g1 n1 d1 pa1 de1 so1 we1 co1 la1 inc1 ps1 t2 g2 n2 d2 pa2 de2 so2 we2 co2 la2 inc2 ps2 ;; (AV.bool (vev14_0 t1 g1 n1 d1 pa1 de1 so1 we1 co1 la1 inc1 ps1 t2 g2 n2 d2 pa2 de2 so2 we2 co2 la2 inc2 ps2), [])
noncomputable def sp14 : List AV → List Blk → Option (Bool × AV × List Blk)
  | [.agg [.int .u8 t1, .int .u8 g1, .int .i64 n1, .str d1, .int .i64 pa1, .int .i64 de1, .bool so1, .int .u8 we1, .int .u32 co1, .int .i64 la1, .int .i64 inc1, .sl .imm [.int .u16, .int .u32] ps1], .agg [.int .u8 t2, .int .u8 g2, .int .i64 n2, .str d2, .int .i64 pa2, .int .i64 de2, .bool so2, .int .u8 we2, .int .u32 co2, .int .i64 la2, .int .i64 inc2, .sl .imm [.int .u16, .int .u32] ps2]], [] => spW (vev14_1 t1 g1 n1 d1 pa1 de1 so1 we1 co1 la1 inc1 ps1 t2 g2 n2 d2 pa2 de2 so2 we2 co2 la2 inc2 ps2) (fin Try.prog (tab.frz 14) ([] : List Blk).length Try.f14.resultTypes.toList (some ((AV.bool (vev14_0 t1 g1 n1 d1 pa1 de1 so1 we1 co1 la1 inc1 ps1 t2 g2 n2 d2 pa2 de2 so2 we2 co2 la2 inc2 ps2), []))))
  | _, _ => none
noncomputable def k14 : Gam := fun f T C => match Nat.beq f 14 with
  | true => (sp14 T C).or (k44 f T C)
  | false => k44 f T C
theorem k14_ok : GamOK Try.prog k14 := by
  intro f T C r outs h
  unfold k14 at h
  cases hf : Nat.beq f 14 with
  | false => rw [hf] at h; exact k44_ok f T C r outs h
  | true =>
    have hf' := Nat.eq_of_beq_eq_true hf
    subst hf'
    rw [hf] at h
    dsimp only at h
    cases hs : sp14 T C with
    | none => rw [hs] at h; exact k44_ok _ T C r outs h
    | some x =>
      rw [hs] at h
      have hx : x = (true, r, outs) := by simpa using h
      subst hx
      unfold sp14 at hs
      split at hs
      · rename_i t1 g1 n1 d1 pa1 de1 so1 we1 co1 la1 inc1 ps1 t2 g2 n2 d2 pa2 de2 so2 we2 co2 la2 inc2 ps2
        obtain ⟨hb, hs⟩ := spW_inv hs
        have he := ev14 t1 g1 n1 d1 pa1 de1 so1 we1 co1 la1 inc1 ps1 t2 g2 n2 d2 pa2 de2 so2 we2 co2 la2 inc2 ps2
        rw [hb, cond_true] at he
        obtain ⟨h1, h2⟩ := fn_ok mixed plain (gk_ok k44_ok 30) Try.func14 (fun c _ => LoopsOK.none (fun _ _ => rfl) c) he
        exact ⟨h1, h2.fin hs⟩
      · cases hs
end Go.Proofs.Gv
