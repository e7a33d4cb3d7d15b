import Derived.Test.YtndephedgodneaaGt
import Derived.KernelRfl
import Derived.Test.YtndephedgodneaaGwF
import Derived.Test.YtndephedgodneaaGaFr3
namespace Go.Proofs.Gv
open Go.Proofs
set_option linter.unusedVariables false
noncomputable def vev49_0 (n : Int) : Bool := bif decide (n ≥ (0 : Int)) then bif true then decide (n ≤ (2147483647 : Int)) else false else false
theorem ev49 (n : Int) : evFin (cfg Try.prog tab 100000 (gk k15 30) noLsp 49 ([] : List Blk).length Try.f49.ntmps) ([] : List Blk).length Try.f49.resultTypes.toList Try.f49 [.int .i64 n] [] = bif true then some (true, AV.bool (vev49_0 n), []) else none := by
  have h : evFin (cfg Try.prog tab 100000 (gk k15 30) noLsp 49 ([] : List Blk).length Try.f49.ntmps) ([] : List Blk).length Try.f49.resultTypes.toList Try.f49 [.int .i64 n] [] = bif bif decide (n ≥ (0 : Int)) then true else true then some (true, AV.bool (bif decide (n ≥ (0 : Int)) then bif true then decide (n ≤ (2147483647 : Int)) else false else false), []) else none := by kernel_rfl
  rw [h]
  clear h
  unfold vev49_0
  generalize (decide (n ≥ (0 : Int))) = c0
  cases c0
  · skip
    rfl
  · skip
    rfl
-- spec true ;; (true, AV.bool (vev49_0 n), [])
noncomputable def sp49 : List AV → List Blk → Option (Bool × AV × List Blk)
  | [.int .i64 n], [] => spW (true) (some ((true, AV.bool (vev49_0 n), [])))
  | _, _ => none
noncomputable def k49 : Gam := fun f T C => match Nat.beq f 49 with
  | true => (sp49 T C).or (k15 f T C)
  | false => k15 f T C
theorem k49_ok : GamOK Try.prog k49 := by
  intro f T C r outs h
  unfold k49 at h
  cases hf : Nat.beq f 49 with
  | false => rw [hf] at h; exact k15_ok f T C r outs h
  | true =>
    have hf' := Nat.eq_of_beq_eq_true hf
    subst hf'
    rw [hf] at h
    dsimp only at h
    cases hs : sp49 T C with
    | none => rw [hs] at h; exact k15_ok _ T C r outs h
    | some x =>
      rw [hs] at h
      have hx : x = (true, r, outs) := by simpa using h
      subst hx
      unfold sp49 at hs
      split at hs
      · rename_i n
        obtain ⟨hb, rfl, rfl⟩ := spT_inv hs
        have he := ev49 n
        obtain ⟨r0, o0, h0, he⟩ := evFin_inv he
        obtain ⟨h1, h2⟩ := fn_ok mixed plain (gk_ok k15_ok 30) Try.func49 (fun c _ => LoopsOK.none (fun _ _ => rfl) c) h0
        exact ⟨h1, h2.fin he⟩
      · cases hs
noncomputable def vev50_0 (t g n : Int) (d : List UInt8) (pa de : Int) (so : Bool) (we co la inc : Int) (ps : List (List AV)) : Bool := bif bif pa != (0 : Int) then !vev64_0 t g n d pa de so we co la inc Tk.imm ps else false then true else bif bif !vev65_0 t g n d pa de so we co la inc Tk.imm ps then bif de != (0 : Int) then true else bif so then true else we != (0 : Int) else false then true else bif bif co != (0 : Int) then bif t != (3 : Int) then t != (7 : Int) else false else false then true else bif bif la != (0 : Int) then t != (7 : Int) else false then true else bif bif inc != (0 : Int) then t != (8 : Int) else false then true else bif bif decide ((↑ps.length : Int) > (0 : Int)) then bif t != (4 : Int) then true else vev56_0 t g n d pa de so we co la inc Tk.imm ps (1 : Int) else false then true else bif t == (2 : Int) then !d == (ByteArray.mk #[]).data.toList else bif t == (3 : Int) then !d == (ByteArray.mk #[]).data.toList else bif t == (4 : Int) then !d == (ByteArray.mk #[]).data.toList else bif t == (8 : Int) then !d == (ByteArray.mk #[]).data.toList else bif t == (6 : Int) then (↑d.length : Int) != (8 : Int) else false
theorem ev50 (t g n : Int) (d : List UInt8) (pa de : Int) (so : Bool) (we co la inc : Int) (ps : List (List AV)) : evFin (cfg Try.prog tab 100000 (gk k49 30) noLsp 50 ([] : List Blk).length Try.f50.ntmps) ([] : List Blk).length Try.f50.resultTypes.toList Try.f50 [.agg [.int .u8 t, .int .u8 g, .int .i64 n, .str d, .int .i64 pa, .int .i64 de, .bool so, .int .u8 we, .int .u32 co, .int .i64 la, .int .i64 inc, .sl .imm [.int .u16, .int .u32] ps]] [] = bif true then some (true, AV.bool (vev50_0 t g n d pa de so we co la inc ps), []) else none := by
  have h : evFin (cfg Try.prog tab 100000 (gk k49 30) noLsp 50 ([] : List Blk).length Try.f50.ntmps) ([] : List Blk).length Try.f50.resultTypes.toList Try.f50 [.agg [.int .u8 t, .int .u8 g, .int .i64 n, .str d, .int .i64 pa, .int .i64 de, .bool so, .int .u8 we, .int .u32 co, .int .i64 la, .int .i64 inc, .sl .imm [.int .u16, .int .u32] ps]] [] = bif bif pa != (0 : Int) then true else true then bif bif pa != (0 : Int) then bif true then !vev64_0 t g n d pa de so we co la inc Tk.imm ps else false else false then bif bif pa != (0 : Int) then bif true then !vev64_0 t g n d pa de so we co la inc Tk.imm ps else false else false then some (true, AV.bool true, []) else bif bif co != (0 : Int) then bif bif true then t != (3 : Int) else false then true else true else true then bif bif co != (0 : Int) then bif bif true then t != (3 : Int) else false then bif true then t != (7 : Int) else false else false else false then some (true, AV.bool true, []) else bif bif la != (0 : Int) then true else true then bif bif la != (0 : Int) then bif true then t != (7 : Int) else false else false then bif bif la != (0 : Int) then bif true then t != (7 : Int) else false else false then some (true, AV.bool true, []) else bif bif decide ((↑ps.length : Int) > (0 : Int)) then bif t != (4 : Int) then true else true else true then bif bif decide ((↑ps.length : Int) > (0 : Int)) then bif t != (4 : Int) then bif true then true else false else bif true then bif false then true else vev56_0 t g n d pa de so we co la inc Tk.imm ps (1 : Int) else false else false then some (true, AV.bool true, []) else bif t == (2 : Int) then bif t == (2 : Int) then some (true, AV.bool !d == (ByteArray.mk #[]).data.toList, []) else bif t == (6 : Int) then some (true, AV.bool ((↑d.length : Int) != (8 : Int)), []) else some (true, AV.bool false, []) else bif t == (3 : Int) then bif t == (3 : Int) then some (true, AV.bool !d == (ByteArray.mk #[]).data.toList, []) else bif t == (6 : Int) then some (true, AV.bool ((↑d.length : Int) != (8 : Int)), []) else some (true, AV.bool false, []) else bif t == (4 : Int) then bif t == (4 : Int) then some (true, AV.bool !d == (ByteArray.mk #[]).data.toList, []) else bif t == (6 : Int) then some (true, AV.bool ((↑d.length : Int) != (8 : Int)), []) else some (true, AV.bool false, []) else bif t == (8 : Int) then some (true, AV.bool !d == (ByteArray.mk #[]).data.toList, []) else bif t == (6 : Int) then some (true, AV.bool ((↑d.length : Int) != (8 : Int)), []) else some (true, AV.bool false, []) else none else bif bif inc != (0 : Int) then true else true then bif bif inc != (0 : Int) then bif true then t != (8 : Int) else false else false then some (true, AV.bool true, []) else bif bif decide ((↑ps.length : Int) > (0 : Int)) then bif t != (4 : Int) then true else true else true then bif bif decide ((↑ps.length : Int) > (0 : Int)) then bif t != (4 : Int) then bif true then true else false else bif true then bif false then true else vev56_0 t g n d pa de so we co la inc Tk.imm ps (1 : Int) else false else false then some (true, AV.bool true, []) else bif t == (2 : Int) then bif t == (2 : Int) then some (true, AV.bool !d == (ByteArray.mk #[]).data.toList, []) else bif t == (6 : Int) then some (true, AV.bool ((↑d.length : Int) != (8 : Int)), []) else some (true, AV.bool false, []) else bif t == (3 : Int) then bif t == (3 : Int) then some (true, AV.bool !d == (ByteArray.mk #[]).data.toList, []) else bif t == (6 : Int) then some (true, AV.bool ((↑d.length : Int) != (8 : Int)), []) else some (true, AV.bool false, []) else bif t == (4 : Int) then bif t == (4 : Int) then some (true, AV.bool !d == (ByteArray.mk #[]).data.toList, []) else bif t == (6 : Int) then some (true, AV.bool ((↑d.length : Int) != (8 : Int)), []) else some (true, AV.bool false, []) else bif t == (8 : Int) then some (true, AV.bool !d == (ByteArray.mk #[]).data.toList, []) else bif t == (6 : Int) then some (true, AV.bool ((↑d.length : Int) != (8 : Int)), []) else some (true, AV.bool false, []) else none else none else none else none else bif bif !vev65_0 t g n d pa de so we co la inc Tk.imm ps then bif de != (0 : Int) then true else bif bif false then true else so then true else true else true then bif bif !vev65_0 t g n d pa de so we co la inc Tk.imm ps then bif de != (0 : Int) then bif true then true else false else bif bif false then true else so then bif true then true else false else bif true then bif false then true else we != (0 : Int) else false else false then some (true, AV.bool true, []) else bif bif co != (0 : Int) then bif bif true then t != (3 : Int) else false then true else true else true then bif bif co != (0 : Int) then bif bif true then t != (3 : Int) else false then bif true then t != (7 : Int) else false else false else false then some (true, AV.bool true, []) else bif bif la != (0 : Int) then true else true then bif bif la != (0 : Int) then bif true then t != (7 : Int) else false else false then bif bif la != (0 : Int) then bif true then t != (7 : Int) else false else false then some (true, AV.bool true, []) else bif bif decide ((↑ps.length : Int) > (0 : Int)) then bif t != (4 : Int) then true else true else true then bif bif decide ((↑ps.length : Int) > (0 : Int)) then bif t != (4 : Int) then bif true then true else false else bif true then bif false then true else vev56_0 t g n d pa de so we co la inc Tk.imm ps (1 : Int) else false else false then some (true, AV.bool true, []) else bif t == (2 : Int) then bif t == (2 : Int) then some (true, AV.bool !d == (ByteArray.mk #[]).data.toList, []) else bif t == (6 : Int) then some (true, AV.bool ((↑d.length : Int) != (8 : Int)), []) else some (true, AV.bool false, []) else bif t == (3 : Int) then bif t == (3 : Int) then some (true, AV.bool !d == (ByteArray.mk #[]).data.toList, []) else bif t == (6 : Int) then some (true, AV.bool ((↑d.length : Int) != (8 : Int)), []) else some (true, AV.bool false, []) else bif t == (4 : Int) then bif t == (4 : Int) then some (true, AV.bool !d == (ByteArray.mk #[]).data.toList, []) else bif t == (6 : Int) then some (true, AV.bool ((↑d.length : Int) != (8 : Int)), []) else some (true, AV.bool false, []) else bif t == (8 : Int) then some (true, AV.bool !d == (ByteArray.mk #[]).data.toList, []) else bif t == (6 : Int) then some (true, AV.bool ((↑d.length : Int) != (8 : Int)), []) else some (true, AV.bool false, []) else none else bif bif inc != (0 : Int) then true else true then bif bif inc != (0 : Int) then bif true then t != (8 : Int) else false else false then some (true, AV.bool true, []) else bif bif decide ((↑ps.length : Int) > (0 : Int)) then bif t != (4 : Int) then true else true else true then bif bif decide ((↑ps.length : Int) > (0 : Int)) then bif t != (4 : Int) then bif true then true else false else bif true then bif false then true else vev56_0 t g n d pa de so we co la inc Tk.imm ps (1 : Int) else false else false then some (true, AV.bool true, []) else bif t == (2 : Int) then bif t == (2 : Int) then some (true, AV.bool !d == (ByteArray.mk #[]).data.toList, []) else bif t == (6 : Int) then some (true, AV.bool ((↑d.length : Int) != (8 : Int)), []) else some (true, AV.bool false, []) else bif t == (3 : Int) then bif t == (3 : Int) then some (true, AV.bool !d == (ByteArray.mk #[]).data.toList, []) else bif t == (6 : Int) then some (true, AV.bool ((↑d.length : Int) != (8 : Int)), []) else some (true, AV.bool false, []) else bif t == (4 : Int) then bif t == (4 : Int) then some (true, AV.bool !d == (ByteArray.mk #[]).data.toList, []) else bif t == (6 : Int) then some (true, AV.bool ((↑d.length : Int) != (8 : Int)), []) else some (true, AV.bool false, []) else bif t == (8 : Int) then some (true, AV.bool !d == (ByteArray.mk #[]).data.toList, []) else bif t == (6 : Int) then some (true, AV.bool ((↑d.length : Int) != (8 : Int)), []) else some (true, AV.bool false, []) else none else none else none else none else none else none := by kernel_rfl
  rw [h]
  clear h
  unfold vev50_0
  generalize (decide ((↑ps.length : Int) > (0 : Int))) = c0
  generalize (vev56_0 t g n d pa de so we co la inc Tk.imm ps (1 : Int)) = c1
  generalize (!vev64_0 t g n d pa de so we co la inc Tk.imm ps) = c2
  generalize (!vev65_0 t g n d pa de so we co la inc Tk.imm ps) = c3
  generalize (t == (6 : Int)) = c4
  generalize (pa != (0 : Int)) = c5
  generalize (we != (0 : Int)) = c6
  generalize (co != (0 : Int)) = c7
  generalize (t != (3 : Int)) = c8
  generalize (t != (7 : Int)) = c9
  generalize (la != (0 : Int)) = c10
  generalize (inc != (0 : Int)) = c11
  generalize (t != (8 : Int)) = c12
  generalize (t == (2 : Int)) = c13
  generalize (t != (4 : Int)) = c14
  generalize (de != (0 : Int)) = c15
  generalize (t == (4 : Int)) = c16
  generalize (t == (3 : Int)) = c17
  generalize (t == (8 : Int)) = c18
  generalize (so) = c19
  cases c5; cases c3; cases c7; cases c10; cases c11; cases c0; cases c13; cases c17; cases c16; cases c18; cases c4; rfl; rfl; rfl; rfl; rfl; rfl
  cases c14; cases c1; cases c13; cases c17; cases c16; cases c18; cases c4; rfl; rfl; rfl; rfl; rfl; rfl; rfl; rfl; cases c12; cases c0; cases c13
  cases c17; cases c16; cases c18; cases c4; rfl; rfl; rfl; rfl; rfl; rfl; cases c14; cases c1; cases c13; cases c17; cases c16; cases c18; cases c4
  rfl; rfl; rfl; rfl; rfl; rfl; rfl; rfl; rfl; cases c9; cases c11; cases c0; cases c13; cases c17; cases c16; cases c18; cases c4; rfl; rfl; rfl; rfl
  rfl; rfl; cases c14; cases c1; cases c13; cases c17; cases c16; cases c18; cases c4; rfl; rfl; rfl; rfl; rfl; rfl; rfl; rfl; cases c12; cases c0
  cases c13; cases c17; cases c16; cases c18; cases c4; rfl; rfl; rfl; rfl; rfl; rfl; cases c14; cases c1; cases c13; cases c17; cases c16; cases c18
  cases c4; rfl; rfl; rfl; rfl; rfl; rfl; rfl; rfl; rfl; rfl; cases c8; cases c10; cases c11; cases c0; cases c13; cases c17; cases c16; cases c18
  cases c4; rfl; rfl; rfl; rfl; rfl; rfl; cases c14; cases c1; cases c13; cases c17; cases c16; cases c18; cases c4; rfl; rfl; rfl; rfl; rfl; rfl; rfl
  rfl; cases c12; cases c0; cases c13; cases c17; cases c16; cases c18; cases c4; rfl; rfl; rfl; rfl; rfl; rfl; cases c14; cases c1; cases c13
  cases c17; cases c16; cases c18; cases c4; rfl; rfl; rfl; rfl; rfl; rfl; rfl; rfl; rfl; cases c9; cases c11; cases c0; cases c13; cases c17
  cases c16; cases c18; cases c4; rfl; rfl; rfl; rfl; rfl; rfl; cases c14; cases c1; cases c13; cases c17; cases c16; cases c18; cases c4; rfl; rfl
  rfl; rfl; rfl; rfl; rfl; rfl; cases c12; cases c0; cases c13; cases c17; cases c16; cases c18; cases c4; rfl; rfl; rfl; rfl; rfl; rfl; cases c14
  cases c1; cases c13; cases c17; cases c16; cases c18; cases c4; rfl; rfl; rfl; rfl; rfl; rfl; rfl; rfl; rfl; rfl; cases c9; cases c10; cases c11
  cases c0; cases c13; cases c17; cases c16; cases c18; cases c4; rfl; rfl; rfl; rfl; rfl; rfl; cases c14; cases c1; cases c13; cases c17; cases c16
  cases c18; cases c4; rfl; rfl; rfl; rfl; rfl; rfl; rfl; rfl; cases c12; cases c0; cases c13; cases c17; cases c16; cases c18; cases c4; rfl; rfl
  rfl; rfl; rfl; rfl; cases c14; cases c1; cases c13; cases c17; cases c16; cases c18; cases c4; rfl; rfl; rfl; rfl; rfl; rfl; rfl; rfl; rfl
  cases c11; cases c0; cases c13; cases c17; cases c16; cases c18; cases c4; rfl; rfl; rfl; rfl; rfl; rfl; cases c14; cases c1; cases c13; cases c17
  cases c16; cases c18; cases c4; rfl; rfl; rfl; rfl; rfl; rfl; rfl; rfl; cases c12; cases c0; cases c13; cases c17; cases c16; cases c18; cases c4
  rfl; rfl; rfl; rfl; rfl; rfl; cases c14; cases c1; cases c13; cases c17; cases c16; cases c18; cases c4; rfl; rfl; rfl; rfl; rfl; rfl; rfl; rfl; rfl
  rfl; cases c15; cases c19; cases c6; cases c7; cases c10; cases c11; cases c0; cases c13; cases c17; cases c16; cases c18; cases c4; rfl; rfl; rfl
  rfl; rfl; rfl; cases c14; cases c1; cases c13; cases c17; cases c16; cases c18; cases c4; rfl; rfl; rfl; rfl; rfl; rfl; rfl; rfl; cases c12
  cases c0; cases c13; cases c17; cases c16; cases c18; cases c4; rfl; rfl; rfl; rfl; rfl; rfl; cases c14; cases c1; cases c13; cases c17; cases c16
  cases c18; cases c4; rfl; rfl; rfl; rfl; rfl; rfl; rfl; rfl; rfl; cases c9; cases c11; cases c0; cases c13; cases c17; cases c16; cases c18
  cases c4; rfl; rfl; rfl; rfl; rfl; rfl; cases c14; cases c1; cases c13; cases c17; cases c16; cases c18; cases c4; rfl; rfl; rfl; rfl; rfl; rfl; rfl
  rfl; cases c12; cases c0; cases c13; cases c17; cases c16; cases c18; cases c4; rfl; rfl; rfl; rfl; rfl; rfl; cases c14; cases c1; cases c13
  cases c17; cases c16; cases c18; cases c4; rfl; rfl; rfl; rfl; rfl; rfl; rfl; rfl; rfl; rfl; cases c8; cases c10; cases c11; cases c0; cases c13
  cases c17; cases c16; cases c18; cases c4; rfl; rfl; rfl; rfl; rfl; rfl; cases c14; cases c1; cases c13; cases c17; cases c16; cases c18; cases c4
  rfl; rfl; rfl; rfl; rfl; rfl; rfl; rfl; cases c12; cases c0; cases c13; cases c17; cases c16; cases c18; cases c4; rfl; rfl; rfl; rfl; rfl; rfl
  cases c14; cases c1; cases c13; cases c17; cases c16; cases c18; cases c4; rfl; rfl; rfl; rfl; rfl; rfl; rfl; rfl; rfl; cases c9; cases c11
  cases c0; cases c13; cases c17; cases c16; cases c18; cases c4; rfl; rfl; rfl; rfl; rfl; rfl; cases c14; cases c1; cases c13; cases c17; cases c16
  cases c18; cases c4; rfl; rfl; rfl; rfl; rfl; rfl; rfl; rfl; cases c12; cases c0; cases c13; cases c17; cases c16; cases c18; cases c4; rfl; rfl
  rfl; rfl; rfl; rfl; cases c14; cases c1; cases c13; cases c17; cases c16; cases c18; cases c4; rfl; rfl; rfl; rfl; rfl; rfl; rfl; rfl; rfl; rfl
  cases c9; cases c10; cases c11; cases c0; cases c13; cases c17; cases c16; cases c18; cases c4; rfl; rfl; rfl; rfl; rfl; rfl; cases c14; cases c1
  cases c13; cases c17; cases c16; cases c18; cases c4; rfl; rfl; rfl; rfl; rfl; rfl; rfl; rfl; cases c12; cases c0; cases c13; cases c17; cases c16
  cases c18; cases c4; rfl; rfl; rfl; rfl; rfl; rfl; cases c14; cases c1; cases c13; cases c17; cases c16; cases c18; cases c4; rfl; rfl; rfl; rfl
  rfl; rfl; rfl; rfl; rfl; cases c11; cases c0; cases c13; cases c17; cases c16; cases c18; cases c4; rfl; rfl; rfl; rfl; rfl; rfl; cases c14
  cases c1; cases c13; cases c17; cases c16; cases c18; cases c4; rfl; rfl; rfl; rfl; rfl; rfl; rfl; rfl; cases c12; cases c0; cases c13; cases c17
  cases c16; cases c18; cases c4; rfl; rfl; rfl; rfl; rfl; rfl; cases c14; cases c1; cases c13; cases c17; cases c16; cases c18; cases c4; rfl; rfl
  rfl; rfl; rfl; rfl; rfl; rfl; rfl; rfl; rfl; rfl; rfl; cases c2; cases c3; cases c7; cases c10; cases c11; cases c0; cases c13; cases c17; cases c16
  cases c18; cases c4; rfl; rfl; rfl; rfl; rfl; rfl; cases c14; cases c1; cases c13; cases c17; cases c16; cases c18; cases c4; rfl; rfl; rfl; rfl
  rfl; rfl; rfl; rfl; cases c12; cases c0; cases c13; cases c17; cases c16; cases c18; cases c4; rfl; rfl; rfl; rfl; rfl; rfl; cases c14; cases c1
  cases c13; cases c17; cases c16; cases c18; cases c4; rfl; rfl; rfl; rfl; rfl; rfl; rfl; rfl; rfl; cases c9; cases c11; cases c0; cases c13
  cases c17; cases c16; cases c18; cases c4; rfl; rfl; rfl; rfl; rfl; rfl; cases c14; cases c1; cases c13; cases c17; cases c16; cases c18; cases c4
  rfl; rfl; rfl; rfl; rfl; rfl; rfl; rfl; cases c12; cases c0; cases c13; cases c17; cases c16; cases c18; cases c4; rfl; rfl; rfl; rfl; rfl; rfl
  cases c14; cases c1; cases c13; cases c17; cases c16; cases c18; cases c4; rfl; rfl; rfl; rfl; rfl; rfl; rfl; rfl; rfl; rfl; cases c8; cases c10
  cases c11; cases c0; cases c13; cases c17; cases c16; cases c18; cases c4; rfl; rfl; rfl; rfl; rfl; rfl; cases c14; cases c1; cases c13; cases c17
  cases c16; cases c18; cases c4; rfl; rfl; rfl; rfl; rfl; rfl; rfl; rfl; cases c12; cases c0; cases c13; cases c17; cases c16; cases c18; cases c4
  rfl; rfl; rfl; rfl; rfl; rfl; cases c14; cases c1; cases c13; cases c17; cases c16; cases c18; cases c4; rfl; rfl; rfl; rfl; rfl; rfl; rfl; rfl; rfl
  cases c9; cases c11; cases c0; cases c13; cases c17; cases c16; cases c18; cases c4; rfl; rfl; rfl; rfl; rfl; rfl; cases c14; cases c1; cases c13
  cases c17; cases c16; cases c18; cases c4; rfl; rfl; rfl; rfl; rfl; rfl; rfl; rfl; cases c12; cases c0; cases c13; cases c17; cases c16; cases c18
  cases c4; rfl; rfl; rfl; rfl; rfl; rfl; cases c14; cases c1; cases c13; cases c17; cases c16; cases c18; cases c4; rfl; rfl; rfl; rfl; rfl; rfl; rfl
  rfl; rfl; rfl; cases c9; cases c10; cases c11; cases c0; cases c13; cases c17; cases c16; cases c18; cases c4; rfl; rfl; rfl; rfl; rfl; rfl
  cases c14; cases c1; cases c13; cases c17; cases c16; cases c18; cases c4; rfl; rfl; rfl; rfl; rfl; rfl; rfl; rfl; cases c12; cases c0; cases c13
  cases c17; cases c16; cases c18; cases c4; rfl; rfl; rfl; rfl; rfl; rfl; cases c14; cases c1; cases c13; cases c17; cases c16; cases c18; cases c4
  rfl; rfl; rfl; rfl; rfl; rfl; rfl; rfl; rfl; cases c11; cases c0; cases c13; cases c17; cases c16; cases c18; cases c4; rfl; rfl; rfl; rfl; rfl; rfl
  cases c14; cases c1; cases c13; cases c17; cases c16; cases c18; cases c4; rfl; rfl; rfl; rfl; rfl; rfl; rfl; rfl; cases c12; cases c0; cases c13
  cases c17; cases c16; cases c18; cases c4; rfl; rfl; rfl; rfl; rfl; rfl; cases c14; cases c1; cases c13; cases c17; cases c16; cases c18; cases c4
  rfl; rfl; rfl; rfl; rfl; rfl; rfl; rfl; rfl; rfl; cases c15; cases c19; cases c6; cases c7; cases c10; cases c11; cases c0; cases c13; cases c17
  cases c16; cases c18; cases c4; rfl; rfl; rfl; rfl; rfl; rfl; cases c14; cases c1; cases c13; cases c17; cases c16; cases c18; cases c4; rfl; rfl
  rfl; rfl; rfl; rfl; rfl; rfl; cases c12; cases c0; cases c13; cases c17; cases c16; cases c18; cases c4; rfl; rfl; rfl; rfl; rfl; rfl; cases c14
  cases c1; cases c13; cases c17; cases c16; cases c18; cases c4; rfl; rfl; rfl; rfl; rfl; rfl; rfl; rfl; rfl; cases c9; cases c11; cases c0
  cases c13; cases c17; cases c16; cases c18; cases c4; rfl; rfl; rfl; rfl; rfl; rfl; cases c14; cases c1; cases c13; cases c17; cases c16; cases c18
  cases c4; rfl; rfl; rfl; rfl; rfl; rfl; rfl; rfl; cases c12; cases c0; cases c13; cases c17; cases c16; cases c18; cases c4; rfl; rfl; rfl; rfl; rfl
  rfl; cases c14; cases c1; cases c13; cases c17; cases c16; cases c18; cases c4; rfl; rfl; rfl; rfl; rfl; rfl; rfl; rfl; rfl; rfl; cases c8
  cases c10; cases c11; cases c0; cases c13; cases c17; cases c16; cases c18; cases c4; rfl; rfl; rfl; rfl; rfl; rfl; cases c14; cases c1; cases c13
  cases c17; cases c16; cases c18; cases c4; rfl; rfl; rfl; rfl; rfl; rfl; rfl; rfl; cases c12; cases c0; cases c13; cases c17; cases c16; cases c18
  cases c4; rfl; rfl; rfl; rfl; rfl; rfl; cases c14; cases c1; cases c13; cases c17; cases c16; cases c18; cases c4; rfl; rfl; rfl; rfl; rfl; rfl; rfl
  rfl; rfl; cases c9; cases c11; cases c0; cases c13; cases c17; cases c16; cases c18; cases c4; rfl; rfl; rfl; rfl; rfl; rfl; cases c14; cases c1
  cases c13; cases c17; cases c16; cases c18; cases c4; rfl; rfl; rfl; rfl; rfl; rfl; rfl; rfl; cases c12; cases c0; cases c13; cases c17; cases c16
  cases c18; cases c4; rfl; rfl; rfl; rfl; rfl; rfl; cases c14; cases c1; cases c13; cases c17; cases c16; cases c18; cases c4; rfl; rfl; rfl; rfl
  rfl; rfl; rfl; rfl; rfl; rfl; cases c9; cases c10; cases c11; cases c0; cases c13; cases c17; cases c16; cases c18; cases c4; rfl; rfl; rfl; rfl
  rfl; rfl; cases c14; cases c1; cases c13; cases c17; cases c16; cases c18; cases c4; rfl; rfl; rfl; rfl; rfl; rfl; rfl; rfl; cases c12; cases c0
  cases c13; cases c17; cases c16; cases c18; cases c4; rfl; rfl; rfl; rfl; rfl; rfl; cases c14; cases c1; cases c13; cases c17; cases c16; cases c18
  cases c4; rfl; rfl; rfl; rfl; rfl; rfl; rfl; rfl; rfl; cases c11; cases c0; cases c13; cases c17; cases c16; cases c18; cases c4; rfl; rfl; rfl; rfl
  rfl; rfl; cases c14; cases c1; cases c13; cases c17; cases c16; cases c18; cases c4; rfl; rfl; rfl; rfl; rfl; rfl; rfl; rfl; cases c12; cases c0
  cases c13; cases c17; cases c16; cases c18; cases c4; rfl; rfl; rfl; rfl; rfl; rfl; cases c14; cases c1; cases c13; cases c17; cases c16; cases c18
  cases c4; rfl; rfl; rfl; rfl; rfl; rfl; rfl; rfl; rfl; rfl; rfl; rfl; rfl; rfl
-- spec true ;; (true, AV.bool (vev50_0 t g n d pa de so we co la inc ps), [])
noncomputable def sp50 : List AV → List Blk → Option (Bool × AV × List Blk)
  | [.agg [.int .u8 t, .int .u8 g, .int .i64 n, .str d, .int .i64 pa, .int .i64 de, .bool so, .int .u8 we, .int .u32 co, .int .i64 la, .int .i64 inc, .sl .imm [.int .u16, .int .u32] ps]], [] => spW (true) (some ((true, AV.bool (vev50_0 t g n d pa de so we co la inc ps), [])))
  | _, _ => none
noncomputable def k50 : Gam := fun f T C => match Nat.beq f 50 with
  | true => (sp50 T C).or (k49 f T C)
  | false => k49 f T C
theorem k50_ok : GamOK Try.prog k50 := by
  intro f T C r outs h
  unfold k50 at h
  cases hf : Nat.beq f 50 with
  | false => rw [hf] at h; exact k49_ok f T C r outs h
  | true =>
    have hf' := Nat.eq_of_beq_eq_true hf
    subst hf'
    rw [hf] at h
    dsimp only at h
    cases hs : sp50 T C with
    | none => rw [hs] at h; exact k49_ok _ T C r outs h
    | some x =>
      rw [hs] at h
      have hx : x = (true, r, outs) := by simpa using h
      subst hx
      unfold sp50 at hs
      split at hs
      · rename_i t g n d pa de so we co la inc ps
        obtain ⟨hb, rfl, rfl⟩ := spT_inv hs
        have he := ev50 t g n d pa de so we co la inc ps
        obtain ⟨r0, o0, h0, he⟩ := evFin_inv he
        obtain ⟨h1, h2⟩ := fn_ok mixed plain (gk_ok k49_ok 30) Try.func50 (fun c _ => LoopsOK.none (fun _ _ => rfl) c) h0
        exact ⟨h1, h2.fin he⟩
      · cases hs
noncomputable def vev66_0 (n : Int) : Int := IntKind.u8.wrap (n.fdiv ((2 : Int) ^ min (Int.toNat (24 : Int)) IntKind.u32.bits))
noncomputable def vev66_1 (n : Int) : Int := IntKind.u8.wrap (n.fdiv ((2 : Int) ^ min (Int.toNat (16 : Int)) IntKind.u32.bits))
noncomputable def vev66_2 (n : Int) : Int := IntKind.u8.wrap (n.fdiv ((2 : Int) ^ min (Int.toNat (8 : Int)) IntKind.u32.bits))
theorem ev66 (n : Int) : evFun (cfg Try.prog tab 100000 (gk k50 30) noLsp 66 ([] : List Blk).length Try.f66.ntmps) Try.f66 [.int .u32 n] [] = some (AV.rf (nat_lit 0) [Kd.int IntKind.u8], [Blk.row [Kd.int IntKind.u8] [[AV.int IntKind.u8 (vev66_0 n)], [AV.int IntKind.u8 (vev66_1 n)], [AV.int IntKind.u8 (vev66_2 n)], [AV.int IntKind.u8 (IntKind.u8.wrap n)]]]) := by kernel_rfl
-- spec true ;; (AV.rf (nat_lit 0) [Kd.int IntKind.u8], [Blk.row [Kd.int IntKind.u8] [[AV.int IntKind.u8 (vev66_0 n)], [AV.int IntKind.u8 (vev66_1 n)], [AV.int IntKind.u8 (vev66_2 n)], [AV.int IntKind.u8 (IntKind.u8.wrap n)]]])
noncomputable def sp66 : List AV → List Blk → Option (Bool × AV × List Blk)
  | [.int .u32 n], [] => spW (true) (fin Try.prog (tab.frz 66) ([] : List Blk).length Try.f66.resultTypes.toList (some ((AV.rf (nat_lit 0) [Kd.int IntKind.u8], [Blk.row [Kd.int IntKind.u8] [[AV.int IntKind.u8 (vev66_0 n)], [AV.int IntKind.u8 (vev66_1 n)], [AV.int IntKind.u8 (vev66_2 n)], [AV.int IntKind.u8 (IntKind.u8.wrap n)]]]))))
  | _, _ => none
noncomputable def k66 : Gam := fun f T C => match Nat.beq f 66 with
  | true => (sp66 T C).or (k50 f T C)
  | false => k50 f T C
theorem k66_ok : GamOK Try.prog k66 := by
  intro f T C r outs h
  unfold k66 at h
  cases hf : Nat.beq f 66 with
  | false => rw [hf] at h; exact k50_ok f T C r outs h
  | true =>
    have hf' := Nat.eq_of_beq_eq_true hf
    subst hf'
    rw [hf] at h
    dsimp only at h
    cases hs : sp66 T C with
    | none => rw [hs] at h; exact k50_ok _ T C r outs h
    | some x =>
      rw [hs] at h
      have hx : x = (true, r, outs) := by simpa using h
      subst hx
      unfold sp66 at hs
      split at hs
      · rename_i n
        obtain ⟨hb, hs⟩ := spW_inv hs
        have he := ev66 n
        obtain ⟨h1, h2⟩ := fn_ok mixed plain (gk_ok k50_ok 30) Try.func66 (fun c _ => LoopsOK.none (fun _ _ => rfl) c) he
        exact ⟨h1, h2.fin hs⟩
      · cases hs
noncomputable def rn45_18_0 (t63 : List (List AV)) (t64 t65 b16_0 b16_1 b16_2 : Int) (b16_3 : List UInt8) (b16_4 b16_5 : Int) (b16_6 : Bool) (b16_7 b16_8 b16_9 b16_10 : Int) (b16_11 b17 : List (List AV)) : Int := intOf ((t63.getD t65.toNat []).getD (0 : Nat) AV.junk)
noncomputable def rn45_18_1 (t63 : List (List AV)) (t64 t65 b16_0 b16_1 b16_2 : Int) (b16_3 : List UInt8) (b16_4 b16_5 : Int) (b16_6 : Bool) (b16_7 b16_8 b16_9 b16_10 : Int) (b16_11 b17 : List (List AV)) : List (List AV) := [[AV.int IntKind.u8 (IntKind.u8.wrap ((rn45_18_0 t63 t64 t65 b16_0 b16_1 b16_2 b16_3 b16_4 b16_5 b16_6 b16_7 b16_8 b16_9 b16_10 b16_11 b17).fdiv ((2 : Int) ^ min (Int.toNat (8 : Int)) IntKind.u16.bits)))], [AV.int IntKind.u8 (IntKind.u8.wrap (rn45_18_0 t63 t64 t65 b16_0 b16_1 b16_2 b16_3 b16_4 b16_5 b16_6 b16_7 b16_8 b16_9 b16_10 b16_11 b17))]]
noncomputable def rn45_18_2 (t63 : List (List AV)) (t64 t65 b16_0 b16_1 b16_2 : Int) (b16_3 : List UInt8) (b16_4 b16_5 : Int) (b16_6 : Bool) (b16_7 b16_8 b16_9 b16_10 : Int) (b16_11 b17 : List (List AV)) : List (List AV) := b17 ++ rn45_18_1 t63 t64 t65 b16_0 b16_1 b16_2 b16_3 b16_4 b16_5 b16_6 b16_7 b16_8 b16_9 b16_10 b16_11 b17
noncomputable def rn45_18_3 (t63 : List (List AV)) (t64 t65 b16_0 b16_1 b16_2 : Int) (b16_3 : List UInt8) (b16_4 b16_5 : Int) (b16_6 : Bool) (b16_7 b16_8 b16_9 b16_10 : Int) (b16_11 b17 : List (List AV)) : Int := intOf ((t63.getD t65.toNat []).getD ((0 : Nat) + (1 : Nat)) AV.junk)
noncomputable def rn45_18_4 (t63 : List (List AV)) (t64 t65 b16_0 b16_1 b16_2 : Int) (b16_3 : List UInt8) (b16_4 b16_5 : Int) (b16_6 : Bool) (b16_7 b16_8 b16_9 b16_10 : Int) (b16_11 b17 : List (List AV)) : List (List AV) := [[AV.int IntKind.u8 (vev66_0 (rn45_18_3 t63 t64 t65 b16_0 b16_1 b16_2 b16_3 b16_4 b16_5 b16_6 b16_7 b16_8 b16_9 b16_10 b16_11 b17))], [AV.int IntKind.u8 (vev66_1 (rn45_18_3 t63 t64 t65 b16_0 b16_1 b16_2 b16_3 b16_4 b16_5 b16_6 b16_7 b16_8 b16_9 b16_10 b16_11 b17))], [AV.int IntKind.u8 (vev66_2 (rn45_18_3 t63 t64 t65 b16_0 b16_1 b16_2 b16_3 b16_4 b16_5 b16_6 b16_7 b16_8 b16_9 b16_10 b16_11 b17))], [AV.int IntKind.u8 (IntKind.u8.wrap (rn45_18_3 t63 t64 t65 b16_0 b16_1 b16_2 b16_3 b16_4 b16_5 b16_6 b16_7 b16_8 b16_9 b16_10 b16_11 b17))]]
noncomputable def go45_18 (t63 : List (List AV)) (t64 t65 b16_0 b16_1 b16_2 : Int) (b16_3 : List UInt8) (b16_4 b16_5 : Int) (b16_6 : Bool) (b16_7 b16_8 b16_9 b16_10 : Int) (b16_11 b17 : List (List AV)) : Bool := bif decide (t65 < t64) then bif decide ((0 : Int) ≤ t65) && decide (t65 < (↑t63.length : Int)) then bif bif decide ((b17.length + (rn45_18_1 t63 t64 t65 b16_0 b16_1 b16_2 b16_3 b16_4 b16_5 b16_6 b16_7 b16_8 b16_9 b16_10 b16_11 b17).length) * (1 : Nat) ≤ (140737488355328 : Nat)) then decide (b17.length + (rn45_18_1 t63 t64 t65 b16_0 b16_1 b16_2 b16_3 b16_4 b16_5 b16_6 b16_7 b16_8 b16_9 b16_10 b16_11 b17).length ≤ (9223372036854775807 : Nat)) else false then bif decide (((rn45_18_2 t63 t64 t65 b16_0 b16_1 b16_2 b16_3 b16_4 b16_5 b16_6 b16_7 b16_8 b16_9 b16_10 b16_11 b17).length + (rn45_18_4 t63 t64 t65 b16_0 b16_1 b16_2 b16_3 b16_4 b16_5 b16_6 b16_7 b16_8 b16_9 b16_10 b16_11 b17).length) * (1 : Nat) ≤ (140737488355328 : Nat)) then decide ((rn45_18_2 t63 t64 t65 b16_0 b16_1 b16_2 b16_3 b16_4 b16_5 b16_6 b16_7 b16_8 b16_9 b16_10 b16_11 b17).length + (rn45_18_4 t63 t64 t65 b16_0 b16_1 b16_2 b16_3 b16_4 b16_5 b16_6 b16_7 b16_8 b16_9 b16_10 b16_11 b17).length ≤ (9223372036854775807 : Nat)) else false else false else false else false
noncomputable def nx45_18_2 (t63 : List (List AV)) (t64 t65 b16_0 b16_1 b16_2 : Int) (b16_3 : List UInt8) (b16_4 b16_5 : Int) (b16_6 : Bool) (b16_7 b16_8 b16_9 b16_10 : Int) (b16_11 b17 : List (List AV)) : Int := IntKind.i64.wrap (t65 + (1 : Int))
noncomputable def nx45_18_15 (t63 : List (List AV)) (t64 t65 b16_0 b16_1 b16_2 : Int) (b16_3 : List UInt8) (b16_4 b16_5 : Int) (b16_6 : Bool) (b16_7 b16_8 b16_9 b16_10 : Int) (b16_11 b17 : List (List AV)) : List (List AV) := rn45_18_2 t63 t64 t65 b16_0 b16_1 b16_2 b16_3 b16_4 b16_5 b16_6 b16_7 b16_8 b16_9 b16_10 b16_11 b17 ++ rn45_18_4 t63 t64 t65 b16_0 b16_1 b16_2 b16_3 b16_4 b16_5 b16_6 b16_7 b16_8 b16_9 b16_10 b16_11 b17
noncomputable def xc45_18_0 (t63 : List (List AV)) (t64 t65 b16_0 b16_1 b16_2 : Int) (b16_3 : List UInt8) (b16_4 b16_5 : Int) (b16_6 : Bool) (b16_7 b16_8 b16_9 b16_10 : Int) (b16_11 b17 : List (List AV)) : Bool := bif decide (t65 < t64) then false else true
theorem rd45_18 (rest : Lsp) (t63 : List (List AV)) (t64 t65 b16_0 b16_1 b16_2 : Int) (b16_3 : List UInt8) (b16_4 b16_5 : Int) (b16_6 : Bool) (b16_7 b16_8 b16_9 b16_10 : Int) (b16_11 b17 : List (List AV)) : roundV (cfg Try.prog tab 100000 (gk k66 30) rest 45 0 Try.f45.ntmps) (loopAt Try.f45 18) [1, 3, 63, 64, 65] [4, 7, 9, 11, 13, 15, 16, 17] [1, 3] [4, 7, 9, 11, 13, 15, 16, 17] [AV.hp (nat_lit 16) (nat_lit 0), AV.rf (nat_lit 17) [Kd.int IntKind.u8], AV.sl Tk.imm [Kd.int IntKind.u16, Kd.int IntKind.u32] t63, AV.int IntKind.i64 t64, AV.int IntKind.i64 t65] [Blk.dead, Blk.dead, Blk.dead, Blk.dead, Blk.dead, Blk.dead, Blk.var [AV.int IntKind.u8 b16_0, AV.int IntKind.u8 b16_1, AV.int IntKind.i64 b16_2, AV.str b16_3, AV.int IntKind.i64 b16_4, AV.int IntKind.i64 b16_5, AV.bool b16_6, AV.int IntKind.u8 b16_7, AV.int IntKind.u32 b16_8, AV.int IntKind.i64 b16_9, AV.int IntKind.i64 b16_10, AV.sl Tk.imm [Kd.int IntKind.u16, Kd.int IntKind.u32] b16_11], Blk.row [Kd.int IntKind.u8] b17] = bif go45_18 t63 t64 t65 b16_0 b16_1 b16_2 b16_3 b16_4 b16_5 b16_6 b16_7 b16_8 b16_9 b16_10 b16_11 b17 then some (Ex.norm, [AV.hp (nat_lit 16) (nat_lit 0), AV.rf (nat_lit 17) [Kd.int IntKind.u8], AV.sl Tk.imm [Kd.int IntKind.u16, Kd.int IntKind.u32] t63, AV.int IntKind.i64 t64, AV.int IntKind.i64 (nx45_18_2 t63 t64 t65 b16_0 b16_1 b16_2 b16_3 b16_4 b16_5 b16_6 b16_7 b16_8 b16_9 b16_10 b16_11 b17)], [Blk.dead, Blk.dead, Blk.dead, Blk.dead, Blk.dead, Blk.dead, Blk.var [AV.int IntKind.u8 b16_0, AV.int IntKind.u8 b16_1, AV.int IntKind.i64 b16_2, AV.str b16_3, AV.int IntKind.i64 b16_4, AV.int IntKind.i64 b16_5, AV.bool b16_6, AV.int IntKind.u8 b16_7, AV.int IntKind.u32 b16_8, AV.int IntKind.i64 b16_9, AV.int IntKind.i64 b16_10, AV.sl Tk.imm [Kd.int IntKind.u16, Kd.int IntKind.u32] b16_11], Blk.row [Kd.int IntKind.u8] (nx45_18_15 t63 t64 t65 b16_0 b16_1 b16_2 b16_3 b16_4 b16_5 b16_6 b16_7 b16_8 b16_9 b16_10 b16_11 b17)]) else bif xc45_18_0 t63 t64 t65 b16_0 b16_1 b16_2 b16_3 b16_4 b16_5 b16_6 b16_7 b16_8 b16_9 b16_10 b16_11 b17 then some (Ex.exit (nat_lit 6), [AV.hp (nat_lit 16) (nat_lit 0), AV.rf (nat_lit 17) [Kd.int IntKind.u8]], [Blk.dead, Blk.dead, Blk.dead, Blk.dead, Blk.dead, Blk.dead, Blk.var [AV.int IntKind.u8 b16_0, AV.int IntKind.u8 b16_1, AV.int IntKind.i64 b16_2, AV.str b16_3, AV.int IntKind.i64 b16_4, AV.int IntKind.i64 b16_5, AV.bool b16_6, AV.int IntKind.u8 b16_7, AV.int IntKind.u32 b16_8, AV.int IntKind.i64 b16_9, AV.int IntKind.i64 b16_10, AV.sl Tk.imm [Kd.int IntKind.u16, Kd.int IntKind.u32] b16_11], Blk.row [Kd.int IntKind.u8] b17]) else none := by
  have h : roundV (cfg Try.prog tab 100000 (gk k66 30) rest 45 0 Try.f45.ntmps) (loopAt Try.f45 18) [1, 3, 63, 64, 65] [4, 7, 9, 11, 13, 15, 16, 17] [1, 3] [4, 7, 9, 11, 13, 15, 16, 17] [AV.hp (nat_lit 16) (nat_lit 0), AV.rf (nat_lit 17) [Kd.int IntKind.u8], AV.sl Tk.imm [Kd.int IntKind.u16, Kd.int IntKind.u32] t63, AV.int IntKind.i64 t64, AV.int IntKind.i64 t65] [Blk.dead, Blk.dead, Blk.dead, Blk.dead, Blk.dead, Blk.dead, Blk.var [AV.int IntKind.u8 b16_0, AV.int IntKind.u8 b16_1, AV.int IntKind.i64 b16_2, AV.str b16_3, AV.int IntKind.i64 b16_4, AV.int IntKind.i64 b16_5, AV.bool b16_6, AV.int IntKind.u8 b16_7, AV.int IntKind.u32 b16_8, AV.int IntKind.i64 b16_9, AV.int IntKind.i64 b16_10, AV.sl Tk.imm [Kd.int IntKind.u16, Kd.int IntKind.u32] b16_11], Blk.row [Kd.int IntKind.u8] b17] = bif decide (t65 < t64) then bif decide ((0 : Int) ≤ t65) && decide (t65 < (↑t63.length : Int)) then bif bif decide ((b17.length + (rn45_18_1 t63 t64 t65 b16_0 b16_1 b16_2 b16_3 b16_4 b16_5 b16_6 b16_7 b16_8 b16_9 b16_10 b16_11 b17).length) * (1 : Nat) ≤ (140737488355328 : Nat)) then decide (b17.length + (rn45_18_1 t63 t64 t65 b16_0 b16_1 b16_2 b16_3 b16_4 b16_5 b16_6 b16_7 b16_8 b16_9 b16_10 b16_11 b17).length ≤ (9223372036854775807 : Nat)) else false then bif bif decide (((rn45_18_2 t63 t64 t65 b16_0 b16_1 b16_2 b16_3 b16_4 b16_5 b16_6 b16_7 b16_8 b16_9 b16_10 b16_11 b17).length + (rn45_18_4 t63 t64 t65 b16_0 b16_1 b16_2 b16_3 b16_4 b16_5 b16_6 b16_7 b16_8 b16_9 b16_10 b16_11 b17).length) * (1 : Nat) ≤ (140737488355328 : Nat)) then decide ((rn45_18_2 t63 t64 t65 b16_0 b16_1 b16_2 b16_3 b16_4 b16_5 b16_6 b16_7 b16_8 b16_9 b16_10 b16_11 b17).length + (rn45_18_4 t63 t64 t65 b16_0 b16_1 b16_2 b16_3 b16_4 b16_5 b16_6 b16_7 b16_8 b16_9 b16_10 b16_11 b17).length ≤ (9223372036854775807 : Nat)) else false then some (Ex.norm, [AV.hp (nat_lit 16) (nat_lit 0), AV.rf (nat_lit 17) [Kd.int IntKind.u8], AV.sl Tk.imm [Kd.int IntKind.u16, Kd.int IntKind.u32] t63, AV.int IntKind.i64 t64, AV.int IntKind.i64 (IntKind.i64.wrap (t65 + (1 : Int)))], [Blk.dead, Blk.dead, Blk.dead, Blk.dead, Blk.dead, Blk.dead, Blk.var [AV.int IntKind.u8 b16_0, AV.int IntKind.u8 b16_1, AV.int IntKind.i64 b16_2, AV.str b16_3, AV.int IntKind.i64 b16_4, AV.int IntKind.i64 b16_5, AV.bool b16_6, AV.int IntKind.u8 b16_7, AV.int IntKind.u32 b16_8, AV.int IntKind.i64 b16_9, AV.int IntKind.i64 b16_10, AV.sl Tk.imm [Kd.int IntKind.u16, Kd.int IntKind.u32] b16_11], Blk.row [Kd.int IntKind.u8] (rn45_18_2 t63 t64 t65 b16_0 b16_1 b16_2 b16_3 b16_4 b16_5 b16_6 b16_7 b16_8 b16_9 b16_10 b16_11 b17 ++ rn45_18_4 t63 t64 t65 b16_0 b16_1 b16_2 b16_3 b16_4 b16_5 b16_6 b16_7 b16_8 b16_9 b16_10 b16_11 b17)]) else none else none else none else some (Ex.exit (nat_lit 6), [AV.hp (nat_lit 16) (nat_lit 0), AV.rf (nat_lit 17) [Kd.int IntKind.u8]], [Blk.dead, Blk.dead, Blk.dead, Blk.dead, Blk.dead, Blk.dead, Blk.var [AV.int IntKind.u8 b16_0, AV.int IntKind.u8 b16_1, AV.int IntKind.i64 b16_2, AV.str b16_3, AV.int IntKind.i64 b16_4, AV.int IntKind.i64 b16_5, AV.bool b16_6, AV.int IntKind.u8 b16_7, AV.int IntKind.u32 b16_8, AV.int IntKind.i64 b16_9, AV.int IntKind.i64 b16_10, AV.sl Tk.imm [Kd.int IntKind.u16, Kd.int IntKind.u32] b16_11], Blk.row [Kd.int IntKind.u8] b17]) := by kernel_rfl
  rw [h]
  clear h
  unfold go45_18 nx45_18_2 nx45_18_15 xc45_18_0
  generalize (decide (((rn45_18_2 t63 t64 t65 b16_0 b16_1 b16_2 b16_3 b16_4 b16_5 b16_6 b16_7 b16_8 b16_9 b16_10 b16_11 b17).length + (rn45_18_4 t63 t64 t65 b16_0 b16_1 b16_2 b16_3 b16_4 b16_5 b16_6 b16_7 b16_8 b16_9 b16_10 b16_11 b17).length) * (1 : Nat) ≤ (140737488355328 : Nat))) = c0
  generalize (decide ((rn45_18_2 t63 t64 t65 b16_0 b16_1 b16_2 b16_3 b16_4 b16_5 b16_6 b16_7 b16_8 b16_9 b16_10 b16_11 b17).length + (rn45_18_4 t63 t64 t65 b16_0 b16_1 b16_2 b16_3 b16_4 b16_5 b16_6 b16_7 b16_8 b16_9 b16_10 b16_11 b17).length ≤ (9223372036854775807 : Nat))) = c1
  generalize (decide ((b17.length + (rn45_18_1 t63 t64 t65 b16_0 b16_1 b16_2 b16_3 b16_4 b16_5 b16_6 b16_7 b16_8 b16_9 b16_10 b16_11 b17).length) * (1 : Nat) ≤ (140737488355328 : Nat))) = c2
  generalize (decide (b17.length + (rn45_18_1 t63 t64 t65 b16_0 b16_1 b16_2 b16_3 b16_4 b16_5 b16_6 b16_7 b16_8 b16_9 b16_10 b16_11 b17).length ≤ (9223372036854775807 : Nat))) = c3
  generalize (decide ((0 : Int) ≤ t65) && decide (t65 < (↑t63.length : Int))) = c4
  generalize (decide (t65 < t64)) = c5
  cases c5; rfl; cases c4; rfl; cases c2; rfl; cases c3; rfl; cases c0; rfl; cases c1; rfl; rfl
abbrev pl45_18 : Type := (List (List AV)) × Int × Int × Int × Int × (List UInt8) × Int × Int × Bool × Int × Int × Int × Int × (List (List AV))
abbrev sl45_18 : Type := Int × (List (List AV))
noncomputable def vt45_18 (a : pl45_18 × sl45_18) : List AV := [AV.hp (nat_lit 16) (nat_lit 0), AV.rf (nat_lit 17) [Kd.int IntKind.u8], AV.sl Tk.imm [Kd.int IntKind.u16, Kd.int IntKind.u32] a.1.1, AV.int IntKind.i64 a.1.2.1, AV.int IntKind.i64 a.2.1]
noncomputable def vc45_18 (a : pl45_18 × sl45_18) : List Blk := [Blk.dead, Blk.dead, Blk.dead, Blk.dead, Blk.dead, Blk.dead, Blk.var [AV.int IntKind.u8 a.1.2.2.1, AV.int IntKind.u8 a.1.2.2.2.1, AV.int IntKind.i64 a.1.2.2.2.2.1, AV.str a.1.2.2.2.2.2.1, AV.int IntKind.i64 a.1.2.2.2.2.2.2.1, AV.int IntKind.i64 a.1.2.2.2.2.2.2.2.1, AV.bool a.1.2.2.2.2.2.2.2.2.1, AV.int IntKind.u8 a.1.2.2.2.2.2.2.2.2.2.1, AV.int IntKind.u32 a.1.2.2.2.2.2.2.2.2.2.2.1, AV.int IntKind.i64 a.1.2.2.2.2.2.2.2.2.2.2.2.1, AV.int IntKind.i64 a.1.2.2.2.2.2.2.2.2.2.2.2.2.1, AV.sl Tk.imm [Kd.int IntKind.u16, Kd.int IntKind.u32] a.1.2.2.2.2.2.2.2.2.2.2.2.2.2], Blk.row [Kd.int IntKind.u8] a.2.2]
noncomputable def de45_18 (vt : List AV) (vc : List Blk) : Option (pl45_18 × sl45_18) :=
  match vt with
  | [qa0, qa1, qa2, qa3, qa4] => (match vc with
  | [qb0, qb1, qb2, qb3, qb4, qb5, qb6, qb7] => (match qa0 with
  | AV.hp (16) (0) => (match qa1 with
  | AV.rf (17) [Kd.int IntKind.u8] => (match qa2 with
  | AV.sl Tk.imm [Kd.int IntKind.u16, Kd.int IntKind.u32] t63 => (match qa3 with
  | AV.int IntKind.i64 t64 => (match qa4 with
  | AV.int IntKind.i64 t65 => (match qb0 with
  | Blk.dead => (match qb1 with
  | Blk.dead => (match qb2 with
  | Blk.dead => (match qb3 with
  | Blk.dead => (match qb4 with
  | Blk.dead => (match qb5 with
  | Blk.dead => (match qb6 with
  | Blk.var [AV.int IntKind.u8 b16_0, AV.int IntKind.u8 b16_1, AV.int IntKind.i64 b16_2, AV.str b16_3, AV.int IntKind.i64 b16_4, AV.int IntKind.i64 b16_5, AV.bool b16_6, AV.int IntKind.u8 b16_7, AV.int IntKind.u32 b16_8, AV.int IntKind.i64 b16_9, AV.int IntKind.i64 b16_10, AV.sl Tk.imm [Kd.int IntKind.u16, Kd.int IntKind.u32] b16_11] => (match qb7 with
  | Blk.row [Kd.int IntKind.u8] b17 => (some ((t63, t64, b16_0, b16_1, b16_2, b16_3, b16_4, b16_5, b16_6, b16_7, b16_8, b16_9, b16_10, b16_11), (t65, b17)))
  | _ => none)
  | _ => none)
  | _ => none)
  | _ => none)
  | _ => none)
  | _ => none)
  | _ => none)
  | _ => none)
  | _ => none)
  | _ => none)
  | _ => none)
  | _ => none)
  | _ => none)
  | _ => none)
  | _ => none
theorem de45_18_ok (vt : List AV) (vc : List Blk) (a : pl45_18 × sl45_18) (h : de45_18 vt vc = some a) : vt = vt45_18 a ∧ vc = vc45_18 a := by
  unfold de45_18 at h
  split at h
  rotate_left
  · cases h
  split at h
  rotate_left
  · cases h
  split at h
  rotate_left
  · cases h
  split at h
  rotate_left
  · cases h
  split at h
  rotate_left
  · cases h
  split at h
  rotate_left
  · cases h
  split at h
  rotate_left
  · cases h
  split at h
  rotate_left
  · cases h
  split at h
  rotate_left
  · cases h
  split at h
  rotate_left
  · cases h
  split at h
  rotate_left
  · cases h
  split at h
  rotate_left
  · cases h
  split at h
  rotate_left
  · cases h
  split at h
  rotate_left
  · cases h
  split at h
  rotate_left
  · cases h
  injection h with h
  subst h
  exact ⟨rfl, rfl⟩
noncomputable def g45_18 (p : pl45_18) (s : sl45_18) : Bool := go45_18 p.1 p.2.1 s.1 p.2.2.1 p.2.2.2.1 p.2.2.2.2.1 p.2.2.2.2.2.1 p.2.2.2.2.2.2.1 p.2.2.2.2.2.2.2.1 p.2.2.2.2.2.2.2.2.1 p.2.2.2.2.2.2.2.2.2.1 p.2.2.2.2.2.2.2.2.2.2.1 p.2.2.2.2.2.2.2.2.2.2.2.1 p.2.2.2.2.2.2.2.2.2.2.2.2.1 p.2.2.2.2.2.2.2.2.2.2.2.2.2 s.2
noncomputable def n45_18 (p : pl45_18) (s : sl45_18) : sl45_18 := (nx45_18_2 p.1 p.2.1 s.1 p.2.2.1 p.2.2.2.1 p.2.2.2.2.1 p.2.2.2.2.2.1 p.2.2.2.2.2.2.1 p.2.2.2.2.2.2.2.1 p.2.2.2.2.2.2.2.2.1 p.2.2.2.2.2.2.2.2.2.1 p.2.2.2.2.2.2.2.2.2.2.1 p.2.2.2.2.2.2.2.2.2.2.2.1 p.2.2.2.2.2.2.2.2.2.2.2.2.1 p.2.2.2.2.2.2.2.2.2.2.2.2.2 s.2, nx45_18_15 p.1 p.2.1 s.1 p.2.2.1 p.2.2.2.1 p.2.2.2.2.1 p.2.2.2.2.2.1 p.2.2.2.2.2.2.1 p.2.2.2.2.2.2.2.1 p.2.2.2.2.2.2.2.2.1 p.2.2.2.2.2.2.2.2.2.1 p.2.2.2.2.2.2.2.2.2.2.1 p.2.2.2.2.2.2.2.2.2.2.2.1 p.2.2.2.2.2.2.2.2.2.2.2.2.1 p.2.2.2.2.2.2.2.2.2.2.2.2.2 s.2)
noncomputable def y45_18 (p : pl45_18) (s : sl45_18) : List (Bool × Out) := []
noncomputable def z45_18 (p : pl45_18) (s : sl45_18) : Bool := xc45_18_0 p.1 p.2.1 s.1 p.2.2.1 p.2.2.2.1 p.2.2.2.2.1 p.2.2.2.2.2.1 p.2.2.2.2.2.2.1 p.2.2.2.2.2.2.2.1 p.2.2.2.2.2.2.2.2.1 p.2.2.2.2.2.2.2.2.2.1 p.2.2.2.2.2.2.2.2.2.2.1 p.2.2.2.2.2.2.2.2.2.2.2.1 p.2.2.2.2.2.2.2.2.2.2.2.2.1 p.2.2.2.2.2.2.2.2.2.2.2.2.2 s.2
noncomputable def d45_18 (p : pl45_18) (s : sl45_18) : Out := (Ex.exit (nat_lit 6), [AV.hp (nat_lit 16) (nat_lit 0), AV.rf (nat_lit 17) [Kd.int IntKind.u8]], [Blk.dead, Blk.dead, Blk.dead, Blk.dead, Blk.dead, Blk.dead, Blk.var [AV.int IntKind.u8 p.2.2.1, AV.int IntKind.u8 p.2.2.2.1, AV.int IntKind.i64 p.2.2.2.2.1, AV.str p.2.2.2.2.2.1, AV.int IntKind.i64 p.2.2.2.2.2.2.1, AV.int IntKind.i64 p.2.2.2.2.2.2.2.1, AV.bool p.2.2.2.2.2.2.2.2.1, AV.int IntKind.u8 p.2.2.2.2.2.2.2.2.2.1, AV.int IntKind.u32 p.2.2.2.2.2.2.2.2.2.2.1, AV.int IntKind.i64 p.2.2.2.2.2.2.2.2.2.2.2.1, AV.int IntKind.i64 p.2.2.2.2.2.2.2.2.2.2.2.2.1, AV.sl Tk.imm [Kd.int IntKind.u16, Kd.int IntKind.u32] p.2.2.2.2.2.2.2.2.2.2.2.2.2], Blk.row [Kd.int IntKind.u8] s.2])
noncomputable def ls45_18 : St → Option (Bool × List (Bool × Ex × St) × Ex × St) := lspOf [1, 3, 63, 64, 65] [4, 7, 9, 11, 13, 15, 16, 17] [1, 3] [4, 7, 9, 11, 13, 15, 16, 17] Try.f45.ntmps (0 + tab.nid 45) de45_18 (spI g45_18 n45_18 y45_18 z45_18 d45_18)
theorem lo45_18 (rest : Lsp) : LoopOK1 (cfg Try.prog tab 100000 (gk k66 30) (selL 18 ls45_18 rest) 45 0 Try.f45.ntmps) (loopAt Try.f45 18) := LoopOK1.iter (i := 18) (by kernel_rfl) [1, 3, 63, 64, 65] [4, 7, 9, 11, 13, 15, 16, 17] [1, 3] [4, 7, 9, 11, 13, 15, 16, 17] vt45_18 vc45_18 de45_18 g45_18 n45_18 y45_18 z45_18 d45_18 (fun _ => rfl) de45_18_ok (fun p s => rd45_18 (selL 18 ls45_18 rest) (p.1) (p.2.1) (s.1) (p.2.2.1) (p.2.2.2.1) (p.2.2.2.2.1) (p.2.2.2.2.2.1) (p.2.2.2.2.2.2.1) (p.2.2.2.2.2.2.2.1) (p.2.2.2.2.2.2.2.2.1) (p.2.2.2.2.2.2.2.2.2.1) (p.2.2.2.2.2.2.2.2.2.2.1) (p.2.2.2.2.2.2.2.2.2.2.2.1) (p.2.2.2.2.2.2.2.2.2.2.2.2.1) (p.2.2.2.2.2.2.2.2.2.2.2.2.2) (s.2)) (fun _ _ => rfl)
noncomputable def lsp45 : Lsp := (selL 18 ls45_18 noLsp)
theorem loops45 : ∀ c, Try.f45.body = some c → LoopsOK (cfg Try.prog tab 100000 (gk k66 30) lsp45 45 0 Try.f45.ntmps) c := loops_of [18] (by kernel_rfl) (by kernel_rfl) (fun i hi => by
  simp only [List.mem_cons, List.not_mem_nil, or_false] at hi
  subst hi
  · exact lo45_18 noLsp)
noncomputable def rev45_0 (t g n : Int) (d : List UInt8) (pa de : Int) (so : Bool) (we co la inc : Int) (ps : List (List AV)) : List (List AV) := [[AV.int IntKind.u8 (vev66_0 co)], [AV.int IntKind.u8 (vev66_1 co)], [AV.int IntKind.u8 (vev66_2 co)], [AV.int IntKind.u8 (IntKind.u8.wrap co)]]
noncomputable def rev45_1 (t g n : Int) (d : List UInt8) (pa de : Int) (so : Bool) (we co la inc : Int) (ps : List (List AV)) : List (List AV) := [AV.int IntKind.u8 (vev66_0 (IntKind.u32.wrap la))] :: [AV.int IntKind.u8 (vev66_1 (IntKind.u32.wrap la))] :: [AV.int IntKind.u8 (vev66_2 (IntKind.u32.wrap la))] :: [AV.int IntKind.u8 (IntKind.u8.wrap (IntKind.u32.wrap la))] :: rev45_0 t g n d pa de so we co la inc ps
noncomputable def rev45_2 (t g n : Int) (d : List UInt8) (pa de : Int) (so : Bool) (we co la inc : Int) (ps : List (List AV)) : List (List AV) := [AV.int IntKind.u8 (vev66_1 (IntKind.u32.wrap de))] :: [AV.int IntKind.u8 (vev66_2 (IntKind.u32.wrap de))] :: [AV.int IntKind.u8 (IntKind.u8.wrap (IntKind.u32.wrap de))] :: [AV.int IntKind.u8 we] :: rev45_1 t g n d pa de so we co la inc ps
noncomputable def rev45_3 (t g n : Int) (d : List UInt8) (pa de : Int) (so : Bool) (we co la inc : Int) (ps : List (List AV)) : List (List AV) := [AV.int IntKind.u8 (bits BinOp.or IntKind.u8 (intOf (([[AV.int IntKind.u8 (vev66_0 (IntKind.u32.wrap de))], [AV.int IntKind.u8 (vev66_1 (IntKind.u32.wrap de))], [AV.int IntKind.u8 (vev66_2 (IntKind.u32.wrap de))], [AV.int IntKind.u8 (IntKind.u8.wrap (IntKind.u32.wrap de))]].getD (Int.toNat (0 : Int)) []).getD (0 : Nat) AV.junk)) (128 : Int))] :: rev45_2 t g n d pa de so we co la inc ps
noncomputable def rev45_4 (t g n : Int) (d : List UInt8) (pa de : Int) (so : Bool) (we co la inc : Int) (ps : List (List AV)) : List (List AV) := [AV.int IntKind.u8 (vev66_0 co)] :: [AV.int IntKind.u8 (vev66_1 co)] :: [AV.int IntKind.u8 (vev66_2 co)] :: [AV.int IntKind.u8 (IntKind.u8.wrap co)] :: List.map ofB d
noncomputable def rev45_5 (t g n : Int) (d : List UInt8) (pa de : Int) (so : Bool) (we co la inc : Int) (ps : List (List AV)) : List (List AV) := [AV.int IntKind.u8 (vev66_0 (IntKind.u32.wrap la))] :: [AV.int IntKind.u8 (vev66_1 (IntKind.u32.wrap la))] :: [AV.int IntKind.u8 (vev66_2 (IntKind.u32.wrap la))] :: [AV.int IntKind.u8 (IntKind.u8.wrap (IntKind.u32.wrap la))] :: rev45_4 t g n d pa de so we co la inc ps
noncomputable def rev45_6 (t g n : Int) (d : List UInt8) (pa de : Int) (so : Bool) (we co la inc : Int) (ps : List (List AV)) : List (List AV) := [AV.int IntKind.u8 (vev66_1 (IntKind.u32.wrap de))] :: [AV.int IntKind.u8 (vev66_2 (IntKind.u32.wrap de))] :: [AV.int IntKind.u8 (IntKind.u8.wrap (IntKind.u32.wrap de))] :: [AV.int IntKind.u8 we] :: rev45_5 t g n d pa de so we co la inc ps
noncomputable def rev45_7 (t g n : Int) (d : List UInt8) (pa de : Int) (so : Bool) (we co la inc : Int) (ps : List (List AV)) : List (List AV) := [AV.int IntKind.u8 (bits BinOp.or IntKind.u8 (intOf (([[AV.int IntKind.u8 (vev66_0 (IntKind.u32.wrap de))], [AV.int IntKind.u8 (vev66_1 (IntKind.u32.wrap de))], [AV.int IntKind.u8 (vev66_2 (IntKind.u32.wrap de))], [AV.int IntKind.u8 (IntKind.u8.wrap (IntKind.u32.wrap de))]].getD (Int.toNat (0 : Int)) []).getD (0 : Nat) AV.junk)) (128 : Int))] :: rev45_6 t g n d pa de so we co la inc ps
noncomputable def rev45_8 (t g n : Int) (d : List UInt8) (pa de : Int) (so : Bool) (we co la inc : Int) (ps : List (List AV)) : List (List AV) := List.map ofB (List.replicate pa.toNat (0 : UInt8))
noncomputable def rev45_9 (t g n : Int) (d : List UInt8) (pa de : Int) (so : Bool) (we co la inc : Int) (ps : List (List AV)) : List (List AV) := List.map ofB d ++ rev45_8 t g n d pa de so we co la inc ps
noncomputable def rev45_10 (t g n : Int) (d : List UInt8) (pa de : Int) (so : Bool) (we co la inc : Int) (ps : List (List AV)) : List (List AV) := [AV.int IntKind.u8 (vev66_0 co)] :: [AV.int IntKind.u8 (vev66_1 co)] :: [AV.int IntKind.u8 (vev66_2 co)] :: [AV.int IntKind.u8 (IntKind.u8.wrap co)] :: rev45_9 t g n d pa de so we co la inc ps
noncomputable def rev45_11 (t g n : Int) (d : List UInt8) (pa de : Int) (so : Bool) (we co la inc : Int) (ps : List (List AV)) : List (List AV) := [AV.int IntKind.u8 (vev66_0 (IntKind.u32.wrap la))] :: [AV.int IntKind.u8 (vev66_1 (IntKind.u32.wrap la))] :: [AV.int IntKind.u8 (vev66_2 (IntKind.u32.wrap la))] :: [AV.int IntKind.u8 (IntKind.u8.wrap (IntKind.u32.wrap la))] :: rev45_10 t g n d pa de so we co la inc ps
noncomputable def rev45_12 (t g n : Int) (d : List UInt8) (pa de : Int) (so : Bool) (we co la inc : Int) (ps : List (List AV)) : List (List AV) := [AV.int IntKind.u8 (vev66_1 (IntKind.u32.wrap de))] :: [AV.int IntKind.u8 (vev66_2 (IntKind.u32.wrap de))] :: [AV.int IntKind.u8 (IntKind.u8.wrap (IntKind.u32.wrap de))] :: [AV.int IntKind.u8 we] :: rev45_11 t g n d pa de so we co la inc ps
noncomputable def rev45_13 (t g n : Int) (d : List UInt8) (pa de : Int) (so : Bool) (we co la inc : Int) (ps : List (List AV)) : List (List AV) := [AV.int IntKind.u8 (bits BinOp.or IntKind.u8 (intOf (([[AV.int IntKind.u8 (vev66_0 (IntKind.u32.wrap de))], [AV.int IntKind.u8 (vev66_1 (IntKind.u32.wrap de))], [AV.int IntKind.u8 (vev66_2 (IntKind.u32.wrap de))], [AV.int IntKind.u8 (IntKind.u8.wrap (IntKind.u32.wrap de))]].getD (Int.toNat (0 : Int)) []).getD (0 : Nat) AV.junk)) (128 : Int))] :: rev45_12 t g n d pa de so we co la inc ps
noncomputable def rev45_14 (t g n : Int) (d : List UInt8) (pa de : Int) (so : Bool) (we co la inc : Int) (ps : List (List AV)) : List (List AV) := [AV.int IntKind.u8 (vev66_1 (IntKind.u32.wrap de))] :: [AV.int IntKind.u8 (vev66_2 (IntKind.u32.wrap de))] :: [AV.int IntKind.u8 (IntKind.u8.wrap (IntKind.u32.wrap de))] :: [AV.int IntKind.u8 we] :: rev45_0 t g n d pa de so we co la inc ps
noncomputable def rev45_15 (t g n : Int) (d : List UInt8) (pa de : Int) (so : Bool) (we co la inc : Int) (ps : List (List AV)) : List (List AV) := [AV.int IntKind.u8 (bits BinOp.or IntKind.u8 (intOf (([[AV.int IntKind.u8 (vev66_0 (IntKind.u32.wrap de))], [AV.int IntKind.u8 (vev66_1 (IntKind.u32.wrap de))], [AV.int IntKind.u8 (vev66_2 (IntKind.u32.wrap de))], [AV.int IntKind.u8 (IntKind.u8.wrap (IntKind.u32.wrap de))]].getD (Int.toNat (0 : Int)) []).getD (0 : Nat) AV.junk)) (128 : Int))] :: rev45_14 t g n d pa de so we co la inc ps
noncomputable def rev45_16 (t g n : Int) (d : List UInt8) (pa de : Int) (so : Bool) (we co la inc : Int) (ps : List (List AV)) : List (List AV) := [AV.int IntKind.u8 (vev66_1 (IntKind.u32.wrap de))] :: [AV.int IntKind.u8 (vev66_2 (IntKind.u32.wrap de))] :: [AV.int IntKind.u8 (IntKind.u8.wrap (IntKind.u32.wrap de))] :: [AV.int IntKind.u8 we] :: rev45_4 t g n d pa de so we co la inc ps
noncomputable def rev45_17 (t g n : Int) (d : List UInt8) (pa de : Int) (so : Bool) (we co la inc : Int) (ps : List (List AV)) : List (List AV) := [AV.int IntKind.u8 (bits BinOp.or IntKind.u8 (intOf (([[AV.int IntKind.u8 (vev66_0 (IntKind.u32.wrap de))], [AV.int IntKind.u8 (vev66_1 (IntKind.u32.wrap de))], [AV.int IntKind.u8 (vev66_2 (IntKind.u32.wrap de))], [AV.int IntKind.u8 (IntKind.u8.wrap (IntKind.u32.wrap de))]].getD (Int.toNat (0 : Int)) []).getD (0 : Nat) AV.junk)) (128 : Int))] :: rev45_16 t g n d pa de so we co la inc ps
noncomputable def rev45_18 (t g n : Int) (d : List UInt8) (pa de : Int) (so : Bool) (we co la inc : Int) (ps : List (List AV)) : List (List AV) := [AV.int IntKind.u8 (vev66_1 (IntKind.u32.wrap de))] :: [AV.int IntKind.u8 (vev66_2 (IntKind.u32.wrap de))] :: [AV.int IntKind.u8 (IntKind.u8.wrap (IntKind.u32.wrap de))] :: [AV.int IntKind.u8 we] :: rev45_10 t g n d pa de so we co la inc ps
noncomputable def rev45_19 (t g n : Int) (d : List UInt8) (pa de : Int) (so : Bool) (we co la inc : Int) (ps : List (List AV)) : List (List AV) := [AV.int IntKind.u8 (bits BinOp.or IntKind.u8 (intOf (([[AV.int IntKind.u8 (vev66_0 (IntKind.u32.wrap de))], [AV.int IntKind.u8 (vev66_1 (IntKind.u32.wrap de))], [AV.int IntKind.u8 (vev66_2 (IntKind.u32.wrap de))], [AV.int IntKind.u8 (IntKind.u8.wrap (IntKind.u32.wrap de))]].getD (Int.toNat (0 : Int)) []).getD (0 : Nat) AV.junk)) (128 : Int))] :: rev45_18 t g n d pa de so we co la inc ps
noncomputable def rev45_20 (t g n : Int) (d : List UInt8) (pa de : Int) (so : Bool) (we co la inc : Int) (ps : List (List AV)) : List (List AV) := [[AV.int IntKind.u8 (vev66_0 (IntKind.u32.wrap inc))], [AV.int IntKind.u8 (vev66_1 (IntKind.u32.wrap inc))], [AV.int IntKind.u8 (vev66_2 (IntKind.u32.wrap inc))], [AV.int IntKind.u8 (IntKind.u8.wrap (IntKind.u32.wrap inc))]]
noncomputable def rev45_21 (t g n : Int) (d : List UInt8) (pa de : Int) (so : Bool) (we co la inc : Int) (ps : List (List AV)) : List (List AV) := [AV.int IntKind.u8 (vev66_1 (IntKind.u32.wrap de))] :: [AV.int IntKind.u8 (vev66_2 (IntKind.u32.wrap de))] :: [AV.int IntKind.u8 (IntKind.u8.wrap (IntKind.u32.wrap de))] :: [AV.int IntKind.u8 we] :: rev45_20 t g n d pa de so we co la inc ps
noncomputable def rev45_22 (t g n : Int) (d : List UInt8) (pa de : Int) (so : Bool) (we co la inc : Int) (ps : List (List AV)) : List (List AV) := [AV.int IntKind.u8 (bits BinOp.or IntKind.u8 (intOf (([[AV.int IntKind.u8 (vev66_0 (IntKind.u32.wrap de))], [AV.int IntKind.u8 (vev66_1 (IntKind.u32.wrap de))], [AV.int IntKind.u8 (vev66_2 (IntKind.u32.wrap de))], [AV.int IntKind.u8 (IntKind.u8.wrap (IntKind.u32.wrap de))]].getD (Int.toNat (0 : Int)) []).getD (0 : Nat) AV.junk)) (128 : Int))] :: rev45_21 t g n d pa de so we co la inc ps
noncomputable def rev45_23 (t g n : Int) (d : List UInt8) (pa de : Int) (so : Bool) (we co la inc : Int) (ps : List (List AV)) : List (List AV) := [AV.int IntKind.u8 (vev66_0 (IntKind.u32.wrap inc))] :: [AV.int IntKind.u8 (vev66_1 (IntKind.u32.wrap inc))] :: [AV.int IntKind.u8 (vev66_2 (IntKind.u32.wrap inc))] :: [AV.int IntKind.u8 (IntKind.u8.wrap (IntKind.u32.wrap inc))] :: List.map ofB d
noncomputable def rev45_24 (t g n : Int) (d : List UInt8) (pa de : Int) (so : Bool) (we co la inc : Int) (ps : List (List AV)) : List (List AV) := [AV.int IntKind.u8 (vev66_1 (IntKind.u32.wrap de))] :: [AV.int IntKind.u8 (vev66_2 (IntKind.u32.wrap de))] :: [AV.int IntKind.u8 (IntKind.u8.wrap (IntKind.u32.wrap de))] :: [AV.int IntKind.u8 we] :: rev45_23 t g n d pa de so we co la inc ps
noncomputable def rev45_25 (t g n : Int) (d : List UInt8) (pa de : Int) (so : Bool) (we co la inc : Int) (ps : List (List AV)) : List (List AV) := [AV.int IntKind.u8 (bits BinOp.or IntKind.u8 (intOf (([[AV.int IntKind.u8 (vev66_0 (IntKind.u32.wrap de))], [AV.int IntKind.u8 (vev66_1 (IntKind.u32.wrap de))], [AV.int IntKind.u8 (vev66_2 (IntKind.u32.wrap de))], [AV.int IntKind.u8 (IntKind.u8.wrap (IntKind.u32.wrap de))]].getD (Int.toNat (0 : Int)) []).getD (0 : Nat) AV.junk)) (128 : Int))] :: rev45_24 t g n d pa de so we co la inc ps
noncomputable def rev45_26 (t g n : Int) (d : List UInt8) (pa de : Int) (so : Bool) (we co la inc : Int) (ps : List (List AV)) : List (List AV) := [AV.int IntKind.u8 (vev66_0 (IntKind.u32.wrap inc))] :: [AV.int IntKind.u8 (vev66_1 (IntKind.u32.wrap inc))] :: [AV.int IntKind.u8 (vev66_2 (IntKind.u32.wrap inc))] :: [AV.int IntKind.u8 (IntKind.u8.wrap (IntKind.u32.wrap inc))] :: rev45_9 t g n d pa de so we co la inc ps
noncomputable def rev45_27 (t g n : Int) (d : List UInt8) (pa de : Int) (so : Bool) (we co la inc : Int) (ps : List (List AV)) : List (List AV) := [AV.int IntKind.u8 (vev66_1 (IntKind.u32.wrap de))] :: [AV.int IntKind.u8 (vev66_2 (IntKind.u32.wrap de))] :: [AV.int IntKind.u8 (IntKind.u8.wrap (IntKind.u32.wrap de))] :: [AV.int IntKind.u8 we] :: rev45_26 t g n d pa de so we co la inc ps
noncomputable def rev45_28 (t g n : Int) (d : List UInt8) (pa de : Int) (so : Bool) (we co la inc : Int) (ps : List (List AV)) : List (List AV) := [AV.int IntKind.u8 (bits BinOp.or IntKind.u8 (intOf (([[AV.int IntKind.u8 (vev66_0 (IntKind.u32.wrap de))], [AV.int IntKind.u8 (vev66_1 (IntKind.u32.wrap de))], [AV.int IntKind.u8 (vev66_2 (IntKind.u32.wrap de))], [AV.int IntKind.u8 (IntKind.u8.wrap (IntKind.u32.wrap de))]].getD (Int.toNat (0 : Int)) []).getD (0 : Nat) AV.junk)) (128 : Int))] :: rev45_27 t g n d pa de so we co la inc ps
noncomputable def rev45_29 (t g n : Int) (d : List UInt8) (pa de : Int) (so : Bool) (we co la inc : Int) (ps : List (List AV)) : List (List AV) := [[AV.int IntKind.u8 (vev66_1 (IntKind.u32.wrap de))], [AV.int IntKind.u8 (vev66_2 (IntKind.u32.wrap de))], [AV.int IntKind.u8 (IntKind.u8.wrap (IntKind.u32.wrap de))], [AV.int IntKind.u8 we]]
noncomputable def rev45_30 (t g n : Int) (d : List UInt8) (pa de : Int) (so : Bool) (we co la inc : Int) (ps : List (List AV)) : List (List AV) := [AV.int IntKind.u8 (bits BinOp.or IntKind.u8 (intOf (([[AV.int IntKind.u8 (vev66_0 (IntKind.u32.wrap de))], [AV.int IntKind.u8 (vev66_1 (IntKind.u32.wrap de))], [AV.int IntKind.u8 (vev66_2 (IntKind.u32.wrap de))], [AV.int IntKind.u8 (IntKind.u8.wrap (IntKind.u32.wrap de))]].getD (Int.toNat (0 : Int)) []).getD (0 : Nat) AV.junk)) (128 : Int))] :: rev45_29 t g n d pa de so we co la inc ps
noncomputable def rev45_31 (t g n : Int) (d : List UInt8) (pa de : Int) (so : Bool) (we co la inc : Int) (ps : List (List AV)) : List (List AV) := [AV.int IntKind.u8 (IntKind.u8.wrap pa)] :: rev45_30 t g n d pa de so we co la inc ps
noncomputable def rev45_32 (t g n : Int) (d : List UInt8) (pa de : Int) (so : Bool) (we co la inc : Int) (ps : List (List AV)) : sl45_18 := finL (g45_18 (ps, (↑ps.length : Int), t, g, n, d, pa, de, so, we, co, la, inc, ps)) (n45_18 (ps, (↑ps.length : Int), t, g, n, d, pa, de, so, we, co, la, inc, ps)) ((0 : Int), rev45_31 t g n d pa de so we co la inc ps)
noncomputable def rev45_33 (t g n : Int) (d : List UInt8) (pa de : Int) (so : Bool) (we co la inc : Int) (ps : List (List AV)) : List (List AV) := (rev45_32 t g n d pa de so we co la inc ps).snd
noncomputable def rev45_34 (t g n : Int) (d : List UInt8) (pa de : Int) (so : Bool) (we co la inc : Int) (ps : List (List AV)) : List (List AV) := rev45_33 t g n d pa de so we co la inc ps ++ List.map ofB d
noncomputable def rev45_35 (t g n : Int) (d : List UInt8) (pa de : Int) (so : Bool) (we co la inc : Int) (ps : List (List AV)) : List (List AV) := [AV.int IntKind.u8 (vev66_1 (IntKind.u32.wrap de))] :: [AV.int IntKind.u8 (vev66_2 (IntKind.u32.wrap de))] :: [AV.int IntKind.u8 (IntKind.u8.wrap (IntKind.u32.wrap de))] :: [AV.int IntKind.u8 we] :: List.map ofB d
noncomputable def rev45_36 (t g n : Int) (d : List UInt8) (pa de : Int) (so : Bool) (we co la inc : Int) (ps : List (List AV)) : List (List AV) := [AV.int IntKind.u8 (bits BinOp.or IntKind.u8 (intOf (([[AV.int IntKind.u8 (vev66_0 (IntKind.u32.wrap de))], [AV.int IntKind.u8 (vev66_1 (IntKind.u32.wrap de))], [AV.int IntKind.u8 (vev66_2 (IntKind.u32.wrap de))], [AV.int IntKind.u8 (IntKind.u8.wrap (IntKind.u32.wrap de))]].getD (Int.toNat (0 : Int)) []).getD (0 : Nat) AV.junk)) (128 : Int))] :: rev45_35 t g n d pa de so we co la inc ps
noncomputable def rev45_37 (t g n : Int) (d : List UInt8) (pa de : Int) (so : Bool) (we co la inc : Int) (ps : List (List AV)) : List (List AV) := [AV.int IntKind.u8 (vev66_1 (IntKind.u32.wrap de))] :: [AV.int IntKind.u8 (vev66_2 (IntKind.u32.wrap de))] :: [AV.int IntKind.u8 (IntKind.u8.wrap (IntKind.u32.wrap de))] :: [AV.int IntKind.u8 we] :: rev45_9 t g n d pa de so we co la inc ps
noncomputable def rev45_38 (t g n : Int) (d : List UInt8) (pa de : Int) (so : Bool) (we co la inc : Int) (ps : List (List AV)) : List (List AV) := [AV.int IntKind.u8 (bits BinOp.or IntKind.u8 (intOf (([[AV.int IntKind.u8 (vev66_0 (IntKind.u32.wrap de))], [AV.int IntKind.u8 (vev66_1 (IntKind.u32.wrap de))], [AV.int IntKind.u8 (vev66_2 (IntKind.u32.wrap de))], [AV.int IntKind.u8 (IntKind.u8.wrap (IntKind.u32.wrap de))]].getD (Int.toNat (0 : Int)) []).getD (0 : Nat) AV.junk)) (128 : Int))] :: rev45_37 t g n d pa de so we co la inc ps
noncomputable def rev45_39 (t g n : Int) (d : List UInt8) (pa de : Int) (so : Bool) (we co la inc : Int) (ps : List (List AV)) : List (List AV) := [AV.int IntKind.u8 (vev66_0 (IntKind.u32.wrap de))] :: rev45_2 t g n d pa de so we co la inc ps
noncomputable def rev45_40 (t g n : Int) (d : List UInt8) (pa de : Int) (so : Bool) (we co la inc : Int) (ps : List (List AV)) : List (List AV) := [AV.int IntKind.u8 (vev66_0 (IntKind.u32.wrap de))] :: rev45_6 t g n d pa de so we co la inc ps
noncomputable def rev45_41 (t g n : Int) (d : List UInt8) (pa de : Int) (so : Bool) (we co la inc : Int) (ps : List (List AV)) : List (List AV) := [AV.int IntKind.u8 (vev66_0 (IntKind.u32.wrap de))] :: rev45_12 t g n d pa de so we co la inc ps
noncomputable def rev45_42 (t g n : Int) (d : List UInt8) (pa de : Int) (so : Bool) (we co la inc : Int) (ps : List (List AV)) : List (List AV) := [AV.int IntKind.u8 (vev66_0 (IntKind.u32.wrap de))] :: rev45_14 t g n d pa de so we co la inc ps
noncomputable def rev45_43 (t g n : Int) (d : List UInt8) (pa de : Int) (so : Bool) (we co la inc : Int) (ps : List (List AV)) : List (List AV) := [AV.int IntKind.u8 (vev66_0 (IntKind.u32.wrap de))] :: rev45_16 t g n d pa de so we co la inc ps
noncomputable def rev45_44 (t g n : Int) (d : List UInt8) (pa de : Int) (so : Bool) (we co la inc : Int) (ps : List (List AV)) : List (List AV) := [AV.int IntKind.u8 (vev66_0 (IntKind.u32.wrap de))] :: rev45_18 t g n d pa de so we co la inc ps
noncomputable def rev45_45 (t g n : Int) (d : List UInt8) (pa de : Int) (so : Bool) (we co la inc : Int) (ps : List (List AV)) : List (List AV) := [AV.int IntKind.u8 (vev66_0 (IntKind.u32.wrap de))] :: rev45_21 t g n d pa de so we co la inc ps
noncomputable def rev45_46 (t g n : Int) (d : List UInt8) (pa de : Int) (so : Bool) (we co la inc : Int) (ps : List (List AV)) : List (List AV) := [AV.int IntKind.u8 (vev66_0 (IntKind.u32.wrap de))] :: rev45_24 t g n d pa de so we co la inc ps
noncomputable def rev45_47 (t g n : Int) (d : List UInt8) (pa de : Int) (so : Bool) (we co la inc : Int) (ps : List (List AV)) : List (List AV) := [AV.int IntKind.u8 (vev66_0 (IntKind.u32.wrap de))] :: rev45_27 t g n d pa de so we co la inc ps
noncomputable def rev45_48 (t g n : Int) (d : List UInt8) (pa de : Int) (so : Bool) (we co la inc : Int) (ps : List (List AV)) : List (List AV) := [AV.int IntKind.u8 (vev66_0 (IntKind.u32.wrap de))] :: rev45_29 t g n d pa de so we co la inc ps
noncomputable def rev45_49 (t g n : Int) (d : List UInt8) (pa de : Int) (so : Bool) (we co la inc : Int) (ps : List (List AV)) : List (List AV) := [AV.int IntKind.u8 (IntKind.u8.wrap pa)] :: rev45_48 t g n d pa de so we co la inc ps
noncomputable def rev45_50 (t g n : Int) (d : List UInt8) (pa de : Int) (so : Bool) (we co la inc : Int) (ps : List (List AV)) : sl45_18 := finL (g45_18 (ps, (↑ps.length : Int), t, g, n, d, pa, de, so, we, co, la, inc, ps)) (n45_18 (ps, (↑ps.length : Int), t, g, n, d, pa, de, so, we, co, la, inc, ps)) ((0 : Int), rev45_49 t g n d pa de so we co la inc ps)
noncomputable def rev45_51 (t g n : Int) (d : List UInt8) (pa de : Int) (so : Bool) (we co la inc : Int) (ps : List (List AV)) : List (List AV) := (rev45_50 t g n d pa de so we co la inc ps).snd
noncomputable def rev45_52 (t g n : Int) (d : List UInt8) (pa de : Int) (so : Bool) (we co la inc : Int) (ps : List (List AV)) : List (List AV) := rev45_51 t g n d pa de so we co la inc ps ++ List.map ofB d
noncomputable def rev45_53 (t g n : Int) (d : List UInt8) (pa de : Int) (so : Bool) (we co la inc : Int) (ps : List (List AV)) : List (List AV) := [AV.int IntKind.u8 (vev66_0 (IntKind.u32.wrap de))] :: rev45_35 t g n d pa de so we co la inc ps
noncomputable def rev45_54 (t g n : Int) (d : List UInt8) (pa de : Int) (so : Bool) (we co la inc : Int) (ps : List (List AV)) : List (List AV) := [AV.int IntKind.u8 (vev66_0 (IntKind.u32.wrap de))] :: rev45_37 t g n d pa de so we co la inc ps
noncomputable def rev45_55 (t g n : Int) (d : List UInt8) (pa de : Int) (so : Bool) (we co la inc : Int) (ps : List (List AV)) : List (List AV) := [[AV.int IntKind.u8 (IntKind.u8.wrap pa)]]
noncomputable def rev45_56 (t g n : Int) (d : List UInt8) (pa de : Int) (so : Bool) (we co la inc : Int) (ps : List (List AV)) : sl45_18 := finL (g45_18 (ps, (↑ps.length : Int), t, g, n, d, pa, de, so, we, co, la, inc, ps)) (n45_18 (ps, (↑ps.length : Int), t, g, n, d, pa, de, so, we, co, la, inc, ps)) ((0 : Int), rev45_55 t g n d pa de so we co la inc ps)
noncomputable def rev45_57 (t g n : Int) (d : List UInt8) (pa de : Int) (so : Bool) (we co la inc : Int) (ps : List (List AV)) : List (List AV) := (rev45_56 t g n d pa de so we co la inc ps).snd
noncomputable def rev45_58 (t g n : Int) (d : List UInt8) (pa de : Int) (so : Bool) (we co la inc : Int) (ps : List (List AV)) : List (List AV) := rev45_57 t g n d pa de so we co la inc ps ++ List.map ofB d
noncomputable def rev45_59 (t g n : Int) (d : List UInt8) (pa de : Int) (so : Bool) (we co la inc : Int) (ps : List (List AV)) : sl45_18 := finL (g45_18 (ps, (↑ps.length : Int), t, g, n, d, pa, de, so, we, co, la, inc, ps)) (n45_18 (ps, (↑ps.length : Int), t, g, n, d, pa, de, so, we, co, la, inc, ps)) ((0 : Int), rev45_30 t g n d pa de so we co la inc ps)
noncomputable def rev45_60 (t g n : Int) (d : List UInt8) (pa de : Int) (so : Bool) (we co la inc : Int) (ps : List (List AV)) : List (List AV) := (rev45_59 t g n d pa de so we co la inc ps).snd
noncomputable def rev45_61 (t g n : Int) (d : List UInt8) (pa de : Int) (so : Bool) (we co la inc : Int) (ps : List (List AV)) : List (List AV) := rev45_60 t g n d pa de so we co la inc ps ++ List.map ofB d
noncomputable def rev45_62 (t g n : Int) (d : List UInt8) (pa de : Int) (so : Bool) (we co la inc : Int) (ps : List (List AV)) : sl45_18 := finL (g45_18 (ps, (↑ps.length : Int), t, g, n, d, pa, de, so, we, co, la, inc, ps)) (n45_18 (ps, (↑ps.length : Int), t, g, n, d, pa, de, so, we, co, la, inc, ps)) ((0 : Int), rev45_48 t g n d pa de so we co la inc ps)
noncomputable def rev45_63 (t g n : Int) (d : List UInt8) (pa de : Int) (so : Bool) (we co la inc : Int) (ps : List (List AV)) : List (List AV) := (rev45_62 t g n d pa de so we co la inc ps).snd
noncomputable def rev45_64 (t g n : Int) (d : List UInt8) (pa de : Int) (so : Bool) (we co la inc : Int) (ps : List (List AV)) : List (List AV) := rev45_63 t g n d pa de so we co la inc ps ++ List.map ofB d
noncomputable def rev45_65 (t g n : Int) (d : List UInt8) (pa de : Int) (so : Bool) (we co la inc : Int) (ps : List (List AV)) : List (List AV) := [[AV.int IntKind.u8 (vev66_0 (IntKind.u32.wrap la))], [AV.int IntKind.u8 (vev66_1 (IntKind.u32.wrap la))], [AV.int IntKind.u8 (vev66_2 (IntKind.u32.wrap la))], [AV.int IntKind.u8 (IntKind.u8.wrap (IntKind.u32.wrap la))]] ++ rev45_0 t g n d pa de so we co la inc ps
noncomputable def rev45_66 (t g n : Int) (d : List UInt8) (pa de : Int) (so : Bool) (we co la inc : Int) (ps : List (List AV)) : sl45_18 := finL (g45_18 (ps, (↑ps.length : Int), t, g, n, d, pa, de, so, we, co, la, inc, ps)) (n45_18 (ps, (↑ps.length : Int), t, g, n, d, pa, de, so, we, co, la, inc, ps)) ((0 : Int), [])
noncomputable def rev45_67 (t g n : Int) (d : List UInt8) (pa de : Int) (so : Bool) (we co la inc : Int) (ps : List (List AV)) : List (List AV) := (rev45_66 t g n d pa de so we co la inc ps).snd
noncomputable def rev45_68 (t g n : Int) (d : List UInt8) (pa de : Int) (so : Bool) (we co la inc : Int) (ps : List (List AV)) : List (List AV) := rev45_67 t g n d pa de so we co la inc ps ++ List.map ofB d
noncomputable def vev45_0 (t g n : Int) (d : List UInt8) (pa de : Int) (so : Bool) (we co la inc : Int) (ps : List (List AV)) : List (List AV) := bif vev64_0 t g n d pa de so we co la inc Tk.imm ps then bif vev65_0 t g n d pa de so we co la inc Tk.imm ps then bif so then bif t == (7 : Int) then [AV.int IntKind.u8 (IntKind.u8.wrap pa)] :: rev45_13 t g n d pa de so we co la inc ps else bif t == (3 : Int) then [AV.int IntKind.u8 (IntKind.u8.wrap pa)] :: rev45_19 t g n d pa de so we co la inc ps else bif t == (8 : Int) then [AV.int IntKind.u8 (IntKind.u8.wrap pa)] :: rev45_28 t g n d pa de so we co la inc ps else bif t == (4 : Int) then rev45_34 t g n d pa de so we co la inc ps ++ rev45_8 t g n d pa de so we co la inc ps else [AV.int IntKind.u8 (IntKind.u8.wrap pa)] :: rev45_38 t g n d pa de so we co la inc ps else bif t == (7 : Int) then [AV.int IntKind.u8 (IntKind.u8.wrap pa)] :: rev45_41 t g n d pa de so we co la inc ps else bif t == (3 : Int) then [AV.int IntKind.u8 (IntKind.u8.wrap pa)] :: rev45_44 t g n d pa de so we co la inc ps else bif t == (8 : Int) then [AV.int IntKind.u8 (IntKind.u8.wrap pa)] :: rev45_47 t g n d pa de so we co la inc ps else bif t == (4 : Int) then rev45_52 t g n d pa de so we co la inc ps ++ rev45_8 t g n d pa de so we co la inc ps else [AV.int IntKind.u8 (IntKind.u8.wrap pa)] :: rev45_54 t g n d pa de so we co la inc ps else bif t == (7 : Int) then [AV.int IntKind.u8 (IntKind.u8.wrap pa)] :: rev45_11 t g n d pa de so we co la inc ps else bif t == (3 : Int) then [AV.int IntKind.u8 (IntKind.u8.wrap pa)] :: rev45_10 t g n d pa de so we co la inc ps else bif t == (8 : Int) then [AV.int IntKind.u8 (IntKind.u8.wrap pa)] :: rev45_26 t g n d pa de so we co la inc ps else bif t == (4 : Int) then rev45_58 t g n d pa de so we co la inc ps ++ rev45_8 t g n d pa de so we co la inc ps else [AV.int IntKind.u8 (IntKind.u8.wrap pa)] :: rev45_9 t g n d pa de so we co la inc ps else bif vev65_0 t g n d pa de so we co la inc Tk.imm ps then bif so then bif t == (7 : Int) then rev45_13 t g n d pa de so we co la inc ps else bif t == (3 : Int) then rev45_19 t g n d pa de so we co la inc ps else bif t == (8 : Int) then rev45_28 t g n d pa de so we co la inc ps else bif t == (4 : Int) then rev45_61 t g n d pa de so we co la inc ps ++ rev45_8 t g n d pa de so we co la inc ps else rev45_38 t g n d pa de so we co la inc ps else bif t == (7 : Int) then rev45_41 t g n d pa de so we co la inc ps else bif t == (3 : Int) then rev45_44 t g n d pa de so we co la inc ps else bif t == (8 : Int) then rev45_47 t g n d pa de so we co la inc ps else bif t == (4 : Int) then rev45_64 t g n d pa de so we co la inc ps ++ rev45_8 t g n d pa de so we co la inc ps else rev45_54 t g n d pa de so we co la inc ps else bif t == (7 : Int) then rev45_11 t g n d pa de so we co la inc ps else bif t == (3 : Int) then rev45_10 t g n d pa de so we co la inc ps else bif t == (8 : Int) then rev45_26 t g n d pa de so we co la inc ps else bif t == (4 : Int) then rev45_68 t g n d pa de so we co la inc ps ++ rev45_8 t g n d pa de so we co la inc ps else rev45_9 t g n d pa de so we co la inc ps
noncomputable def vev45_1 (t g n : Int) (d : List UInt8) (pa de : Int) (so : Bool) (we co la inc : Int) (ps : List (List AV)) : Bool := bif vev64_0 t g n d pa de so we co la inc Tk.imm ps then bif vev65_0 t g n d pa de so we co la inc Tk.imm ps then bif so then bif t == (7 : Int) then bif bif decide ((([AV.int IntKind.u8 (IntKind.u8.wrap pa)] :: rev45_3 t g n d pa de so we co la inc ps).length + (List.map ofB d).length) * (1 : Nat) ≤ (140737488355328 : Nat)) then decide (([AV.int IntKind.u8 (IntKind.u8.wrap pa)] :: rev45_3 t g n d pa de so we co la inc ps).length + (List.map ofB d).length ≤ (9223372036854775807 : Nat)) else false then bif bif decide ((0 : Int) ≤ pa) then bif decide (pa ≤ (1099511627776 : Int)) then bif decide ((([AV.int IntKind.u8 (IntKind.u8.wrap pa)] :: rev45_7 t g n d pa de so we co la inc ps).length + (rev45_8 t g n d pa de so we co la inc ps).length) * (1 : Nat) ≤ (140737488355328 : Nat)) then decide (([AV.int IntKind.u8 (IntKind.u8.wrap pa)] :: rev45_7 t g n d pa de so we co la inc ps).length + (rev45_8 t g n d pa de so we co la inc ps).length ≤ (9223372036854775807 : Nat)) else false else false else false then true else false else false else bif t == (3 : Int) then bif bif decide ((([AV.int IntKind.u8 (IntKind.u8.wrap pa)] :: rev45_15 t g n d pa de so we co la inc ps).length + (List.map ofB d).length) * (1 : Nat) ≤ (140737488355328 : Nat)) then decide (([AV.int IntKind.u8 (IntKind.u8.wrap pa)] :: rev45_15 t g n d pa de so we co la inc ps).length + (List.map ofB d).length ≤ (9223372036854775807 : Nat)) else false then bif bif decide ((0 : Int) ≤ pa) then bif decide (pa ≤ (1099511627776 : Int)) then bif decide ((([AV.int IntKind.u8 (IntKind.u8.wrap pa)] :: rev45_17 t g n d pa de so we co la inc ps).length + (rev45_8 t g n d pa de so we co la inc ps).length) * (1 : Nat) ≤ (140737488355328 : Nat)) then decide (([AV.int IntKind.u8 (IntKind.u8.wrap pa)] :: rev45_17 t g n d pa de so we co la inc ps).length + (rev45_8 t g n d pa de so we co la inc ps).length ≤ (9223372036854775807 : Nat)) else false else false else false then true else false else false else bif t == (8 : Int) then bif bif decide ((([AV.int IntKind.u8 (IntKind.u8.wrap pa)] :: rev45_22 t g n d pa de so we co la inc ps).length + (List.map ofB d).length) * (1 : Nat) ≤ (140737488355328 : Nat)) then decide (([AV.int IntKind.u8 (IntKind.u8.wrap pa)] :: rev45_22 t g n d pa de so we co la inc ps).length + (List.map ofB d).length ≤ (9223372036854775807 : Nat)) else false then bif bif decide ((0 : Int) ≤ pa) then bif decide (pa ≤ (1099511627776 : Int)) then bif decide ((([AV.int IntKind.u8 (IntKind.u8.wrap pa)] :: rev45_25 t g n d pa de so we co la inc ps).length + (rev45_8 t g n d pa de so we co la inc ps).length) * (1 : Nat) ≤ (140737488355328 : Nat)) then decide (([AV.int IntKind.u8 (IntKind.u8.wrap pa)] :: rev45_25 t g n d pa de so we co la inc ps).length + (rev45_8 t g n d pa de so we co la inc ps).length ≤ (9223372036854775807 : Nat)) else false else false else false then true else false else false else bif t == (4 : Int) then bif (spI g45_18 n45_18 y45_18 z45_18 d45_18 ((ps, (↑ps.length : Int), t, g, n, d, pa, de, so, we, co, la, inc, ps), (0 : Int), rev45_31 t g n d pa de so we co la inc ps)).fst then bif bif decide (((rev45_33 t g n d pa de so we co la inc ps).length + (List.map ofB d).length) * (1 : Nat) ≤ (140737488355328 : Nat)) then decide ((rev45_33 t g n d pa de so we co la inc ps).length + (List.map ofB d).length ≤ (9223372036854775807 : Nat)) else false then bif bif decide ((0 : Int) ≤ pa) then bif decide (pa ≤ (1099511627776 : Int)) then bif decide (((rev45_34 t g n d pa de so we co la inc ps).length + (rev45_8 t g n d pa de so we co la inc ps).length) * (1 : Nat) ≤ (140737488355328 : Nat)) then decide ((rev45_34 t g n d pa de so we co la inc ps).length + (rev45_8 t g n d pa de so we co la inc ps).length ≤ (9223372036854775807 : Nat)) else false else false else false then true else false else false else false else bif bif decide (((rev45_31 t g n d pa de so we co la inc ps).length + (List.map ofB d).length) * (1 : Nat) ≤ (140737488355328 : Nat)) then decide ((rev45_31 t g n d pa de so we co la inc ps).length + (List.map ofB d).length ≤ (9223372036854775807 : Nat)) else false then bif bif decide ((0 : Int) ≤ pa) then bif decide (pa ≤ (1099511627776 : Int)) then bif decide ((([AV.int IntKind.u8 (IntKind.u8.wrap pa)] :: rev45_36 t g n d pa de so we co la inc ps).length + (rev45_8 t g n d pa de so we co la inc ps).length) * (1 : Nat) ≤ (140737488355328 : Nat)) then decide (([AV.int IntKind.u8 (IntKind.u8.wrap pa)] :: rev45_36 t g n d pa de so we co la inc ps).length + (rev45_8 t g n d pa de so we co la inc ps).length ≤ (9223372036854775807 : Nat)) else false else false else false then true else false else false else bif t == (7 : Int) then bif bif decide ((([AV.int IntKind.u8 (IntKind.u8.wrap pa)] :: rev45_39 t g n d pa de so we co la inc ps).length + (List.map ofB d).length) * (1 : Nat) ≤ (140737488355328 : Nat)) then decide (([AV.int IntKind.u8 (IntKind.u8.wrap pa)] :: rev45_39 t g n d pa de so we co la inc ps).length + (List.map ofB d).length ≤ (9223372036854775807 : Nat)) else false then bif bif decide ((0 : Int) ≤ pa) then bif decide (pa ≤ (1099511627776 : Int)) then bif decide ((([AV.int IntKind.u8 (IntKind.u8.wrap pa)] :: rev45_40 t g n d pa de so we co la inc ps).length + (rev45_8 t g n d pa de so we co la inc ps).length) * (1 : Nat) ≤ (140737488355328 : Nat)) then decide (([AV.int IntKind.u8 (IntKind.u8.wrap pa)] :: rev45_40 t g n d pa de so we co la inc ps).length + (rev45_8 t g n d pa de so we co la inc ps).length ≤ (9223372036854775807 : Nat)) else false else false else false then true else false else false else bif t == (3 : Int) then bif bif decide ((([AV.int IntKind.u8 (IntKind.u8.wrap pa)] :: rev45_42 t g n d pa de so we co la inc ps).length + (List.map ofB d).length) * (1 : Nat) ≤ (140737488355328 : Nat)) then decide (([AV.int IntKind.u8 (IntKind.u8.wrap pa)] :: rev45_42 t g n d pa de so we co la inc ps).length + (List.map ofB d).length ≤ (9223372036854775807 : Nat)) else false then bif bif decide ((0 : Int) ≤ pa) then bif decide (pa ≤ (1099511627776 : Int)) then bif decide ((([AV.int IntKind.u8 (IntKind.u8.wrap pa)] :: rev45_43 t g n d pa de so we co la inc ps).length + (rev45_8 t g n d pa de so we co la inc ps).length) * (1 : Nat) ≤ (140737488355328 : Nat)) then decide (([AV.int IntKind.u8 (IntKind.u8.wrap pa)] :: rev45_43 t g n d pa de so we co la inc ps).length + (rev45_8 t g n d pa de so we co la inc ps).length ≤ (9223372036854775807 : Nat)) else false else false else false then true else false else false else bif t == (8 : Int) then bif bif decide ((([AV.int IntKind.u8 (IntKind.u8.wrap pa)] :: rev45_45 t g n d pa de so we co la inc ps).length + (List.map ofB d).length) * (1 : Nat) ≤ (140737488355328 : Nat)) then decide (([AV.int IntKind.u8 (IntKind.u8.wrap pa)] :: rev45_45 t g n d pa de so we co la inc ps).length + (List.map ofB d).length ≤ (9223372036854775807 : Nat)) else false then bif bif decide ((0 : Int) ≤ pa) then bif decide (pa ≤ (1099511627776 : Int)) then bif decide ((([AV.int IntKind.u8 (IntKind.u8.wrap pa)] :: rev45_46 t g n d pa de so we co la inc ps).length + (rev45_8 t g n d pa de so we co la inc ps).length) * (1 : Nat) ≤ (140737488355328 : Nat)) then decide (([AV.int IntKind.u8 (IntKind.u8.wrap pa)] :: rev45_46 t g n d pa de so we co la inc ps).length + (rev45_8 t g n d pa de so we co la inc ps).length ≤ (9223372036854775807 : Nat)) else false else false else false then true else false else false else bif t == (4 : Int) then bif (spI g45_18 n45_18 y45_18 z45_18 d45_18 ((ps, (↑ps.length : Int), t, g, n, d, pa, de, so, we, co, la, inc, ps), (0 : Int), rev45_49 t g n d pa de so we co la inc ps)).fst then bif bif decide (((rev45_51 t g n d pa de so we co la inc ps).length + (List.map ofB d).length) * (1 : Nat) ≤ (140737488355328 : Nat)) then decide ((rev45_51 t g n d pa de so we co la inc ps).length + (List.map ofB d).length ≤ (9223372036854775807 : Nat)) else false then bif bif decide ((0 : Int) ≤ pa) then bif decide (pa ≤ (1099511627776 : Int)) then bif decide (((rev45_52 t g n d pa de so we co la inc ps).length + (rev45_8 t g n d pa de so we co la inc ps).length) * (1 : Nat) ≤ (140737488355328 : Nat)) then decide ((rev45_52 t g n d pa de so we co la inc ps).length + (rev45_8 t g n d pa de so we co la inc ps).length ≤ (9223372036854775807 : Nat)) else false else false else false then true else false else false else false else bif bif decide (((rev45_49 t g n d pa de so we co la inc ps).length + (List.map ofB d).length) * (1 : Nat) ≤ (140737488355328 : Nat)) then decide ((rev45_49 t g n d pa de so we co la inc ps).length + (List.map ofB d).length ≤ (9223372036854775807 : Nat)) else false then bif bif decide ((0 : Int) ≤ pa) then bif decide (pa ≤ (1099511627776 : Int)) then bif decide ((([AV.int IntKind.u8 (IntKind.u8.wrap pa)] :: rev45_53 t g n d pa de so we co la inc ps).length + (rev45_8 t g n d pa de so we co la inc ps).length) * (1 : Nat) ≤ (140737488355328 : Nat)) then decide (([AV.int IntKind.u8 (IntKind.u8.wrap pa)] :: rev45_53 t g n d pa de so we co la inc ps).length + (rev45_8 t g n d pa de so we co la inc ps).length ≤ (9223372036854775807 : Nat)) else false else false else false then true else false else false else bif t == (7 : Int) then bif bif decide ((([AV.int IntKind.u8 (IntKind.u8.wrap pa)] :: rev45_1 t g n d pa de so we co la inc ps).length + (List.map ofB d).length) * (1 : Nat) ≤ (140737488355328 : Nat)) then decide (([AV.int IntKind.u8 (IntKind.u8.wrap pa)] :: rev45_1 t g n d pa de so we co la inc ps).length + (List.map ofB d).length ≤ (9223372036854775807 : Nat)) else false then bif bif decide ((0 : Int) ≤ pa) then bif decide (pa ≤ (1099511627776 : Int)) then bif decide ((([AV.int IntKind.u8 (IntKind.u8.wrap pa)] :: rev45_5 t g n d pa de so we co la inc ps).length + (rev45_8 t g n d pa de so we co la inc ps).length) * (1 : Nat) ≤ (140737488355328 : Nat)) then decide (([AV.int IntKind.u8 (IntKind.u8.wrap pa)] :: rev45_5 t g n d pa de so we co la inc ps).length + (rev45_8 t g n d pa de so we co la inc ps).length ≤ (9223372036854775807 : Nat)) else false else false else false then true else false else false else bif t == (3 : Int) then bif bif decide ((([AV.int IntKind.u8 (IntKind.u8.wrap pa)] :: rev45_0 t g n d pa de so we co la inc ps).length + (List.map ofB d).length) * (1 : Nat) ≤ (140737488355328 : Nat)) then decide (([AV.int IntKind.u8 (IntKind.u8.wrap pa)] :: rev45_0 t g n d pa de so we co la inc ps).length + (List.map ofB d).length ≤ (9223372036854775807 : Nat)) else false then bif bif decide ((0 : Int) ≤ pa) then bif decide (pa ≤ (1099511627776 : Int)) then bif decide ((([AV.int IntKind.u8 (IntKind.u8.wrap pa)] :: rev45_4 t g n d pa de so we co la inc ps).length + (rev45_8 t g n d pa de so we co la inc ps).length) * (1 : Nat) ≤ (140737488355328 : Nat)) then decide (([AV.int IntKind.u8 (IntKind.u8.wrap pa)] :: rev45_4 t g n d pa de so we co la inc ps).length + (rev45_8 t g n d pa de so we co la inc ps).length ≤ (9223372036854775807 : Nat)) else false else false else false then true else false else false else bif t == (8 : Int) then bif bif decide ((([AV.int IntKind.u8 (IntKind.u8.wrap pa)] :: rev45_20 t g n d pa de so we co la inc ps).length + (List.map ofB d).length) * (1 : Nat) ≤ (140737488355328 : Nat)) then decide (([AV.int IntKind.u8 (IntKind.u8.wrap pa)] :: rev45_20 t g n d pa de so we co la inc ps).length + (List.map ofB d).length ≤ (9223372036854775807 : Nat)) else false then bif bif decide ((0 : Int) ≤ pa) then bif decide (pa ≤ (1099511627776 : Int)) then bif decide ((([AV.int IntKind.u8 (IntKind.u8.wrap pa)] :: rev45_23 t g n d pa de so we co la inc ps).length + (rev45_8 t g n d pa de so we co la inc ps).length) * (1 : Nat) ≤ (140737488355328 : Nat)) then decide (([AV.int IntKind.u8 (IntKind.u8.wrap pa)] :: rev45_23 t g n d pa de so we co la inc ps).length + (rev45_8 t g n d pa de so we co la inc ps).length ≤ (9223372036854775807 : Nat)) else false else false else false then true else false else false else bif t == (4 : Int) then bif (spI g45_18 n45_18 y45_18 z45_18 d45_18 ((ps, (↑ps.length : Int), t, g, n, d, pa, de, so, we, co, la, inc, ps), (0 : Int), rev45_55 t g n d pa de so we co la inc ps)).fst then bif bif decide (((rev45_57 t g n d pa de so we co la inc ps).length + (List.map ofB d).length) * (1 : Nat) ≤ (140737488355328 : Nat)) then decide ((rev45_57 t g n d pa de so we co la inc ps).length + (List.map ofB d).length ≤ (9223372036854775807 : Nat)) else false then bif bif decide ((0 : Int) ≤ pa) then bif decide (pa ≤ (1099511627776 : Int)) then bif decide (((rev45_58 t g n d pa de so we co la inc ps).length + (rev45_8 t g n d pa de so we co la inc ps).length) * (1 : Nat) ≤ (140737488355328 : Nat)) then decide ((rev45_58 t g n d pa de so we co la inc ps).length + (rev45_8 t g n d pa de so we co la inc ps).length ≤ (9223372036854775807 : Nat)) else false else false else false then true else false else false else false else bif bif decide (((rev45_55 t g n d pa de so we co la inc ps).length + (List.map ofB d).length) * (1 : Nat) ≤ (140737488355328 : Nat)) then decide ((rev45_55 t g n d pa de so we co la inc ps).length + (List.map ofB d).length ≤ (9223372036854775807 : Nat)) else false then bif bif decide ((0 : Int) ≤ pa) then bif decide (pa ≤ (1099511627776 : Int)) then bif decide ((([AV.int IntKind.u8 (IntKind.u8.wrap pa)] :: List.map ofB d).length + (rev45_8 t g n d pa de so we co la inc ps).length) * (1 : Nat) ≤ (140737488355328 : Nat)) then decide (([AV.int IntKind.u8 (IntKind.u8.wrap pa)] :: List.map ofB d).length + (rev45_8 t g n d pa de so we co la inc ps).length ≤ (9223372036854775807 : Nat)) else false else false else false then true else false else false else bif vev65_0 t g n d pa de so we co la inc Tk.imm ps then bif so then bif t == (7 : Int) then bif bif decide (((rev45_3 t g n d pa de so we co la inc ps).length + (List.map ofB d).length) * (1 : Nat) ≤ (140737488355328 : Nat)) then decide ((rev45_3 t g n d pa de so we co la inc ps).length + (List.map ofB d).length ≤ (9223372036854775807 : Nat)) else false then bif bif decide ((0 : Int) ≤ pa) then bif decide (pa ≤ (1099511627776 : Int)) then bif decide (((rev45_7 t g n d pa de so we co la inc ps).length + (rev45_8 t g n d pa de so we co la inc ps).length) * (1 : Nat) ≤ (140737488355328 : Nat)) then decide ((rev45_7 t g n d pa de so we co la inc ps).length + (rev45_8 t g n d pa de so we co la inc ps).length ≤ (9223372036854775807 : Nat)) else false else false else false then true else false else false else bif t == (3 : Int) then bif bif decide (((rev45_15 t g n d pa de so we co la inc ps).length + (List.map ofB d).length) * (1 : Nat) ≤ (140737488355328 : Nat)) then decide ((rev45_15 t g n d pa de so we co la inc ps).length + (List.map ofB d).length ≤ (9223372036854775807 : Nat)) else false then bif bif decide ((0 : Int) ≤ pa) then bif decide (pa ≤ (1099511627776 : Int)) then bif decide (((rev45_17 t g n d pa de so we co la inc ps).length + (rev45_8 t g n d pa de so we co la inc ps).length) * (1 : Nat) ≤ (140737488355328 : Nat)) then decide ((rev45_17 t g n d pa de so we co la inc ps).length + (rev45_8 t g n d pa de so we co la inc ps).length ≤ (9223372036854775807 : Nat)) else false else false else false then true else false else false else bif t == (8 : Int) then bif bif decide (((rev45_22 t g n d pa de so we co la inc ps).length + (List.map ofB d).length) * (1 : Nat) ≤ (140737488355328 : Nat)) then decide ((rev45_22 t g n d pa de so we co la inc ps).length + (List.map ofB d).length ≤ (9223372036854775807 : Nat)) else false then bif bif decide ((0 : Int) ≤ pa) then bif decide (pa ≤ (1099511627776 : Int)) then bif decide (((rev45_25 t g n d pa de so we co la inc ps).length + (rev45_8 t g n d pa de so we co la inc ps).length) * (1 : Nat) ≤ (140737488355328 : Nat)) then decide ((rev45_25 t g n d pa de so we co la inc ps).length + (rev45_8 t g n d pa de so we co la inc ps).length ≤ (9223372036854775807 : Nat)) else false else false else false then true else false else false else bif t == (4 : Int) then bif (spI g45_18 n45_18 y45_18 z45_18 d45_18 ((ps, (↑ps.length : Int), t, g, n, d, pa, de, so, we, co, la, inc, ps), (0 : Int), rev45_30 t g n d pa de so we co la inc ps)).fst then bif bif decide (((rev45_60 t g n d pa de so we co la inc ps).length + (List.map ofB d).length) * (1 : Nat) ≤ (140737488355328 : Nat)) then decide ((rev45_60 t g n d pa de so we co la inc ps).length + (List.map ofB d).length ≤ (9223372036854775807 : Nat)) else false then bif bif decide ((0 : Int) ≤ pa) then bif decide (pa ≤ (1099511627776 : Int)) then bif decide (((rev45_61 t g n d pa de so we co la inc ps).length + (rev45_8 t g n d pa de so we co la inc ps).length) * (1 : Nat) ≤ (140737488355328 : Nat)) then decide ((rev45_61 t g n d pa de so we co la inc ps).length + (rev45_8 t g n d pa de so we co la inc ps).length ≤ (9223372036854775807 : Nat)) else false else false else false then true else false else false else false else bif bif decide (((rev45_30 t g n d pa de so we co la inc ps).length + (List.map ofB d).length) * (1 : Nat) ≤ (140737488355328 : Nat)) then decide ((rev45_30 t g n d pa de so we co la inc ps).length + (List.map ofB d).length ≤ (9223372036854775807 : Nat)) else false then bif bif decide ((0 : Int) ≤ pa) then bif decide (pa ≤ (1099511627776 : Int)) then bif decide (((rev45_36 t g n d pa de so we co la inc ps).length + (rev45_8 t g n d pa de so we co la inc ps).length) * (1 : Nat) ≤ (140737488355328 : Nat)) then decide ((rev45_36 t g n d pa de so we co la inc ps).length + (rev45_8 t g n d pa de so we co la inc ps).length ≤ (9223372036854775807 : Nat)) else false else false else false then true else false else false else bif t == (7 : Int) then bif bif decide (((rev45_39 t g n d pa de so we co la inc ps).length + (List.map ofB d).length) * (1 : Nat) ≤ (140737488355328 : Nat)) then decide ((rev45_39 t g n d pa de so we co la inc ps).length + (List.map ofB d).length ≤ (9223372036854775807 : Nat)) else false then bif bif decide ((0 : Int) ≤ pa) then bif decide (pa ≤ (1099511627776 : Int)) then bif decide (((rev45_40 t g n d pa de so we co la inc ps).length + (rev45_8 t g n d pa de so we co la inc ps).length) * (1 : Nat) ≤ (140737488355328 : Nat)) then decide ((rev45_40 t g n d pa de so we co la inc ps).length + (rev45_8 t g n d pa de so we co la inc ps).length ≤ (9223372036854775807 : Nat)) else false else false else false then true else false else false else bif t == (3 : Int) then bif bif decide (((rev45_42 t g n d pa de so we co la inc ps).length + (List.map ofB d).length) * (1 : Nat) ≤ (140737488355328 : Nat)) then decide ((rev45_42 t g n d pa de so we co la inc ps).length + (List.map ofB d).length ≤ (9223372036854775807 : Nat)) else false then bif bif decide ((0 : Int) ≤ pa) then bif decide (pa ≤ (1099511627776 : Int)) then bif decide (((rev45_43 t g n d pa de so we co la inc ps).length + (rev45_8 t g n d pa de so we co la inc ps).length) * (1 : Nat) ≤ (140737488355328 : Nat)) then decide ((rev45_43 t g n d pa de so we co la inc ps).length + (rev45_8 t g n d pa de so we co la inc ps).length ≤ (9223372036854775807 : Nat)) else false else false else false then true else false else false else bif t == (8 : Int) then bif bif decide (((rev45_45 t g n d pa de so we co la inc ps).length + (List.map ofB d).length) * (1 : Nat) ≤ (140737488355328 : Nat)) then decide ((rev45_45 t g n d pa de so we co la inc ps).length + (List.map ofB d).length ≤ (9223372036854775807 : Nat)) else false then bif bif decide ((0 : Int) ≤ pa) then bif decide (pa ≤ (1099511627776 : Int)) then bif decide (((rev45_46 t g n d pa de so we co la inc ps).length + (rev45_8 t g n d pa de so we co la inc ps).length) * (1 : Nat) ≤ (140737488355328 : Nat)) then decide ((rev45_46 t g n d pa de so we co la inc ps).length + (rev45_8 t g n d pa de so we co la inc ps).length ≤ (9223372036854775807 : Nat)) else false else false else false then true else false else false else bif t == (4 : Int) then bif (spI g45_18 n45_18 y45_18 z45_18 d45_18 ((ps, (↑ps.length : Int), t, g, n, d, pa, de, so, we, co, la, inc, ps), (0 : Int), rev45_48 t g n d pa de so we co la inc ps)).fst then bif bif decide (((rev45_63 t g n d pa de so we co la inc ps).length + (List.map ofB d).length) * (1 : Nat) ≤ (140737488355328 : Nat)) then decide ((rev45_63 t g n d pa de so we co la inc ps).length + (List.map ofB d).length ≤ (9223372036854775807 : Nat)) else false then bif bif decide ((0 : Int) ≤ pa) then bif decide (pa ≤ (1099511627776 : Int)) then bif decide (((rev45_64 t g n d pa de so we co la inc ps).length + (rev45_8 t g n d pa de so we co la inc ps).length) * (1 : Nat) ≤ (140737488355328 : Nat)) then decide ((rev45_64 t g n d pa de so we co la inc ps).length + (rev45_8 t g n d pa de so we co la inc ps).length ≤ (9223372036854775807 : Nat)) else false else false else false then true else false else false else false else bif bif decide (((rev45_48 t g n d pa de so we co la inc ps).length + (List.map ofB d).length) * (1 : Nat) ≤ (140737488355328 : Nat)) then decide ((rev45_48 t g n d pa de so we co la inc ps).length + (List.map ofB d).length ≤ (9223372036854775807 : Nat)) else false then bif bif decide ((0 : Int) ≤ pa) then bif decide (pa ≤ (1099511627776 : Int)) then bif decide (((rev45_53 t g n d pa de so we co la inc ps).length + (rev45_8 t g n d pa de so we co la inc ps).length) * (1 : Nat) ≤ (140737488355328 : Nat)) then decide ((rev45_53 t g n d pa de so we co la inc ps).length + (rev45_8 t g n d pa de so we co la inc ps).length ≤ (9223372036854775807 : Nat)) else false else false else false then true else false else false else bif t == (7 : Int) then bif bif decide (((rev45_65 t g n d pa de so we co la inc ps).length + (List.map ofB d).length) * (1 : Nat) ≤ (140737488355328 : Nat)) then decide ((rev45_65 t g n d pa de so we co la inc ps).length + (List.map ofB d).length ≤ (9223372036854775807 : Nat)) else false then bif bif decide ((0 : Int) ≤ pa) then bif decide (pa ≤ (1099511627776 : Int)) then bif decide (((rev45_65 t g n d pa de so we co la inc ps ++ List.map ofB d).length + (rev45_8 t g n d pa de so we co la inc ps).length) * (1 : Nat) ≤ (140737488355328 : Nat)) then decide ((rev45_65 t g n d pa de so we co la inc ps ++ List.map ofB d).length + (rev45_8 t g n d pa de so we co la inc ps).length ≤ (9223372036854775807 : Nat)) else false else false else false then true else false else false else bif t == (3 : Int) then bif bif decide (((rev45_0 t g n d pa de so we co la inc ps).length + (List.map ofB d).length) * (1 : Nat) ≤ (140737488355328 : Nat)) then decide ((rev45_0 t g n d pa de so we co la inc ps).length + (List.map ofB d).length ≤ (9223372036854775807 : Nat)) else false then bif bif decide ((0 : Int) ≤ pa) then bif decide (pa ≤ (1099511627776 : Int)) then bif decide (((rev45_0 t g n d pa de so we co la inc ps ++ List.map ofB d).length + (rev45_8 t g n d pa de so we co la inc ps).length) * (1 : Nat) ≤ (140737488355328 : Nat)) then decide ((rev45_0 t g n d pa de so we co la inc ps ++ List.map ofB d).length + (rev45_8 t g n d pa de so we co la inc ps).length ≤ (9223372036854775807 : Nat)) else false else false else false then true else false else false else bif t == (8 : Int) then bif bif decide (((rev45_20 t g n d pa de so we co la inc ps).length + (List.map ofB d).length) * (1 : Nat) ≤ (140737488355328 : Nat)) then decide ((rev45_20 t g n d pa de so we co la inc ps).length + (List.map ofB d).length ≤ (9223372036854775807 : Nat)) else false then bif bif decide ((0 : Int) ≤ pa) then bif decide (pa ≤ (1099511627776 : Int)) then bif decide (((rev45_20 t g n d pa de so we co la inc ps ++ List.map ofB d).length + (rev45_8 t g n d pa de so we co la inc ps).length) * (1 : Nat) ≤ (140737488355328 : Nat)) then decide ((rev45_20 t g n d pa de so we co la inc ps ++ List.map ofB d).length + (rev45_8 t g n d pa de so we co la inc ps).length ≤ (9223372036854775807 : Nat)) else false else false else false then true else false else false else bif t == (4 : Int) then bif (spI g45_18 n45_18 y45_18 z45_18 d45_18 ((ps, (↑ps.length : Int), t, g, n, d, pa, de, so, we, co, la, inc, ps), (0 : Int), [])).fst then bif bif decide (((rev45_67 t g n d pa de so we co la inc ps).length + (List.map ofB d).length) * (1 : Nat) ≤ (140737488355328 : Nat)) then decide ((rev45_67 t g n d pa de so we co la inc ps).length + (List.map ofB d).length ≤ (9223372036854775807 : Nat)) else false then bif bif decide ((0 : Int) ≤ pa) then bif decide (pa ≤ (1099511627776 : Int)) then bif decide (((rev45_68 t g n d pa de so we co la inc ps).length + (rev45_8 t g n d pa de so we co la inc ps).length) * (1 : Nat) ≤ (140737488355328 : Nat)) then decide ((rev45_68 t g n d pa de so we co la inc ps).length + (rev45_8 t g n d pa de so we co la inc ps).length ≤ (9223372036854775807 : Nat)) else false else false else false then true else false else false else false else bif bif decide ((List.map ofB d).length * (1 : Nat) ≤ (140737488355328 : Nat)) then decide ((List.map ofB d).length ≤ (9223372036854775807 : Nat)) else false then bif bif decide ((0 : Int) ≤ pa) then bif decide (pa ≤ (1099511627776 : Int)) then bif decide (((List.map ofB d).length + (rev45_8 t g n d pa de so we co la inc ps).length) * (1 : Nat) ≤ (140737488355328 : Nat)) then decide ((List.map ofB d).length + (rev45_8 t g n d pa de so we co la inc ps).length ≤ (9223372036854775807 : Nat)) else false else false else false then true else false else false
theorem ev45 (t g n : Int) (d : List UInt8) (pa de : Int) (so : Bool) (we co la inc : Int) (ps : List (List AV)) : evFin (cfg Try.prog tab 100000 (gk k66 30) lsp45 45 ([] : List Blk).length Try.f45.ntmps) ([] : List Blk).length Try.f45.resultTypes.toList Try.f45 [.agg [.int .u8 t, .int .u8 g, .int .i64 n, .str d, .int .i64 pa, .int .i64 de, .bool so, .int .u8 we, .int .u32 co, .int .i64 la, .int .i64 inc, .sl .imm [.int .u16, .int .u32] ps]] [] = bif vev45_1 t g n d pa de so we co la inc ps then some (true, AV.sl Tk.imm [Kd.int IntKind.u8] (vev45_0 t g n d pa de so we co la inc ps), []) else none := by
  have h : evFin (cfg Try.prog tab 100000 (gk k66 30) lsp45 45 ([] : List Blk).length Try.f45.ntmps) ([] : List Blk).length Try.f45.resultTypes.toList Try.f45 [.agg [.int .u8 t, .int .u8 g, .int .i64 n, .str d, .int .i64 pa, .int .i64 de, .bool so, .int .u8 we, .int .u32 co, .int .i64 la, .int .i64 inc, .sl .imm [.int .u16, .int .u32] ps]] [] = bif vev64_0 t g n d pa de so we co la inc Tk.imm ps then bif vev65_0 t g n d pa de so we co la inc Tk.imm ps then bif so then bif t == (7 : Int) then bif bif decide ((([AV.int IntKind.u8 (IntKind.u8.wrap pa)] :: rev45_3 t g n d pa de so we co la inc ps).length + (List.map ofB d).length) * (1 : Nat) ≤ (140737488355328 : Nat)) then decide (([AV.int IntKind.u8 (IntKind.u8.wrap pa)] :: rev45_3 t g n d pa de so we co la inc ps).length + (List.map ofB d).length ≤ (9223372036854775807 : Nat)) else false then bif bif decide ((0 : Int) ≤ pa) then bif decide (pa ≤ (1099511627776 : Int)) then bif decide ((([AV.int IntKind.u8 (IntKind.u8.wrap pa)] :: rev45_7 t g n d pa de so we co la inc ps).length + (rev45_8 t g n d pa de so we co la inc ps).length) * (1 : Nat) ≤ (140737488355328 : Nat)) then decide (([AV.int IntKind.u8 (IntKind.u8.wrap pa)] :: rev45_7 t g n d pa de so we co la inc ps).length + (rev45_8 t g n d pa de so we co la inc ps).length ≤ (9223372036854775807 : Nat)) else false else false else false then some (true, AV.sl Tk.imm [Kd.int IntKind.u8] ([AV.int IntKind.u8 (IntKind.u8.wrap pa)] :: rev45_13 t g n d pa de so we co la inc ps), []) else none else none else bif t == (3 : Int) then bif bif decide ((([AV.int IntKind.u8 (IntKind.u8.wrap pa)] :: rev45_15 t g n d pa de so we co la inc ps).length + (List.map ofB d).length) * (1 : Nat) ≤ (140737488355328 : Nat)) then decide (([AV.int IntKind.u8 (IntKind.u8.wrap pa)] :: rev45_15 t g n d pa de so we co la inc ps).length + (List.map ofB d).length ≤ (9223372036854775807 : Nat)) else false then bif bif decide ((0 : Int) ≤ pa) then bif decide (pa ≤ (1099511627776 : Int)) then bif decide ((([AV.int IntKind.u8 (IntKind.u8.wrap pa)] :: rev45_17 t g n d pa de so we co la inc ps).length + (rev45_8 t g n d pa de so we co la inc ps).length) * (1 : Nat) ≤ (140737488355328 : Nat)) then decide (([AV.int IntKind.u8 (IntKind.u8.wrap pa)] :: rev45_17 t g n d pa de so we co la inc ps).length + (rev45_8 t g n d pa de so we co la inc ps).length ≤ (9223372036854775807 : Nat)) else false else false else false then some (true, AV.sl Tk.imm [Kd.int IntKind.u8] ([AV.int IntKind.u8 (IntKind.u8.wrap pa)] :: rev45_19 t g n d pa de so we co la inc ps), []) else none else none else bif t == (8 : Int) then bif bif decide ((([AV.int IntKind.u8 (IntKind.u8.wrap pa)] :: rev45_22 t g n d pa de so we co la inc ps).length + (List.map ofB d).length) * (1 : Nat) ≤ (140737488355328 : Nat)) then decide (([AV.int IntKind.u8 (IntKind.u8.wrap pa)] :: rev45_22 t g n d pa de so we co la inc ps).length + (List.map ofB d).length ≤ (9223372036854775807 : Nat)) else false then bif bif decide ((0 : Int) ≤ pa) then bif decide (pa ≤ (1099511627776 : Int)) then bif decide ((([AV.int IntKind.u8 (IntKind.u8.wrap pa)] :: rev45_25 t g n d pa de so we co la inc ps).length + (rev45_8 t g n d pa de so we co la inc ps).length) * (1 : Nat) ≤ (140737488355328 : Nat)) then decide (([AV.int IntKind.u8 (IntKind.u8.wrap pa)] :: rev45_25 t g n d pa de so we co la inc ps).length + (rev45_8 t g n d pa de so we co la inc ps).length ≤ (9223372036854775807 : Nat)) else false else false else false then some (true, AV.sl Tk.imm [Kd.int IntKind.u8] ([AV.int IntKind.u8 (IntKind.u8.wrap pa)] :: rev45_28 t g n d pa de so we co la inc ps), []) else none else none else bif t == (4 : Int) then bif (spI g45_18 n45_18 y45_18 z45_18 d45_18 ((ps, (↑ps.length : Int), t, g, n, d, pa, de, so, we, co, la, inc, ps), (0 : Int), rev45_31 t g n d pa de so we co la inc ps)).fst then bif bif decide (((rev45_33 t g n d pa de so we co la inc ps).length + (List.map ofB d).length) * (1 : Nat) ≤ (140737488355328 : Nat)) then decide ((rev45_33 t g n d pa de so we co la inc ps).length + (List.map ofB d).length ≤ (9223372036854775807 : Nat)) else false then bif bif decide ((0 : Int) ≤ pa) then bif decide (pa ≤ (1099511627776 : Int)) then bif decide (((rev45_34 t g n d pa de so we co la inc ps).length + (rev45_8 t g n d pa de so we co la inc ps).length) * (1 : Nat) ≤ (140737488355328 : Nat)) then decide ((rev45_34 t g n d pa de so we co la inc ps).length + (rev45_8 t g n d pa de so we co la inc ps).length ≤ (9223372036854775807 : Nat)) else false else false else false then some (true, AV.sl Tk.imm [Kd.int IntKind.u8] (rev45_34 t g n d pa de so we co la inc ps ++ rev45_8 t g n d pa de so we co la inc ps), []) else none else none else none else bif bif decide (((rev45_31 t g n d pa de so we co la inc ps).length + (List.map ofB d).length) * (1 : Nat) ≤ (140737488355328 : Nat)) then decide ((rev45_31 t g n d pa de so we co la inc ps).length + (List.map ofB d).length ≤ (9223372036854775807 : Nat)) else false then bif bif decide ((0 : Int) ≤ pa) then bif decide (pa ≤ (1099511627776 : Int)) then bif decide ((([AV.int IntKind.u8 (IntKind.u8.wrap pa)] :: rev45_36 t g n d pa de so we co la inc ps).length + (rev45_8 t g n d pa de so we co la inc ps).length) * (1 : Nat) ≤ (140737488355328 : Nat)) then decide (([AV.int IntKind.u8 (IntKind.u8.wrap pa)] :: rev45_36 t g n d pa de so we co la inc ps).length + (rev45_8 t g n d pa de so we co la inc ps).length ≤ (9223372036854775807 : Nat)) else false else false else false then some (true, AV.sl Tk.imm [Kd.int IntKind.u8] ([AV.int IntKind.u8 (IntKind.u8.wrap pa)] :: rev45_38 t g n d pa de so we co la inc ps), []) else none else none else bif t == (7 : Int) then bif bif decide ((([AV.int IntKind.u8 (IntKind.u8.wrap pa)] :: rev45_39 t g n d pa de so we co la inc ps).length + (List.map ofB d).length) * (1 : Nat) ≤ (140737488355328 : Nat)) then decide (([AV.int IntKind.u8 (IntKind.u8.wrap pa)] :: rev45_39 t g n d pa de so we co la inc ps).length + (List.map ofB d).length ≤ (9223372036854775807 : Nat)) else false then bif bif decide ((0 : Int) ≤ pa) then bif decide (pa ≤ (1099511627776 : Int)) then bif decide ((([AV.int IntKind.u8 (IntKind.u8.wrap pa)] :: rev45_40 t g n d pa de so we co la inc ps).length + (rev45_8 t g n d pa de so we co la inc ps).length) * (1 : Nat) ≤ (140737488355328 : Nat)) then decide (([AV.int IntKind.u8 (IntKind.u8.wrap pa)] :: rev45_40 t g n d pa de so we co la inc ps).length + (rev45_8 t g n d pa de so we co la inc ps).length ≤ (9223372036854775807 : Nat)) else false else false else false then some (true, AV.sl Tk.imm [Kd.int IntKind.u8] ([AV.int IntKind.u8 (IntKind.u8.wrap pa)] :: rev45_41 t g n d pa de so we co la inc ps), []) else none else none else bif t == (3 : Int) then bif bif decide ((([AV.int IntKind.u8 (IntKind.u8.wrap pa)] :: rev45_42 t g n d pa de so we co la inc ps).length + (List.map ofB d).length) * (1 : Nat) ≤ (140737488355328 : Nat)) then decide (([AV.int IntKind.u8 (IntKind.u8.wrap pa)] :: rev45_42 t g n d pa de so we co la inc ps).length + (List.map ofB d).length ≤ (9223372036854775807 : Nat)) else false then bif bif decide ((0 : Int) ≤ pa) then bif decide (pa ≤ (1099511627776 : Int)) then bif decide ((([AV.int IntKind.u8 (IntKind.u8.wrap pa)] :: rev45_43 t g n d pa de so we co la inc ps).length + (rev45_8 t g n d pa de so we co la inc ps).length) * (1 : Nat) ≤ (140737488355328 : Nat)) then decide (([AV.int IntKind.u8 (IntKind.u8.wrap pa)] :: rev45_43 t g n d pa de so we co la inc ps).length + (rev45_8 t g n d pa de so we co la inc ps).length ≤ (9223372036854775807 : Nat)) else false else false else false then some (true, AV.sl Tk.imm [Kd.int IntKind.u8] ([AV.int IntKind.u8 (IntKind.u8.wrap pa)] :: rev45_44 t g n d pa de so we co la inc ps), []) else none else none else bif t == (8 : Int) then bif bif decide ((([AV.int IntKind.u8 (IntKind.u8.wrap pa)] :: rev45_45 t g n d pa de so we co la inc ps).length + (List.map ofB d).length) * (1 : Nat) ≤ (140737488355328 : Nat)) then decide (([AV.int IntKind.u8 (IntKind.u8.wrap pa)] :: rev45_45 t g n d pa de so we co la inc ps).length + (List.map ofB d).length ≤ (9223372036854775807 : Nat)) else false then bif bif decide ((0 : Int) ≤ pa) then bif decide (pa ≤ (1099511627776 : Int)) then bif decide ((([AV.int IntKind.u8 (IntKind.u8.wrap pa)] :: rev45_46 t g n d pa de so we co la inc ps).length + (rev45_8 t g n d pa de so we co la inc ps).length) * (1 : Nat) ≤ (140737488355328 : Nat)) then decide (([AV.int IntKind.u8 (IntKind.u8.wrap pa)] :: rev45_46 t g n d pa de so we co la inc ps).length + (rev45_8 t g n d pa de so we co la inc ps).length ≤ (9223372036854775807 : Nat)) else false else false else false then some (true, AV.sl Tk.imm [Kd.int IntKind.u8] ([AV.int IntKind.u8 (IntKind.u8.wrap pa)] :: rev45_47 t g n d pa de so we co la inc ps), []) else none else none else bif t == (4 : Int) then bif (spI g45_18 n45_18 y45_18 z45_18 d45_18 ((ps, (↑ps.length : Int), t, g, n, d, pa, de, so, we, co, la, inc, ps), (0 : Int), rev45_49 t g n d pa de so we co la inc ps)).fst then bif bif decide (((rev45_51 t g n d pa de so we co la inc ps).length + (List.map ofB d).length) * (1 : Nat) ≤ (140737488355328 : Nat)) then decide ((rev45_51 t g n d pa de so we co la inc ps).length + (List.map ofB d).length ≤ (9223372036854775807 : Nat)) else false then bif bif decide ((0 : Int) ≤ pa) then bif decide (pa ≤ (1099511627776 : Int)) then bif decide (((rev45_52 t g n d pa de so we co la inc ps).length + (rev45_8 t g n d pa de so we co la inc ps).length) * (1 : Nat) ≤ (140737488355328 : Nat)) then decide ((rev45_52 t g n d pa de so we co la inc ps).length + (rev45_8 t g n d pa de so we co la inc ps).length ≤ (9223372036854775807 : Nat)) else false else false else false then some (true, AV.sl Tk.imm [Kd.int IntKind.u8] (rev45_52 t g n d pa de so we co la inc ps ++ rev45_8 t g n d pa de so we co la inc ps), []) else none else none else none else bif bif decide (((rev45_49 t g n d pa de so we co la inc ps).length + (List.map ofB d).length) * (1 : Nat) ≤ (140737488355328 : Nat)) then decide ((rev45_49 t g n d pa de so we co la inc ps).length + (List.map ofB d).length ≤ (9223372036854775807 : Nat)) else false then bif bif decide ((0 : Int) ≤ pa) then bif decide (pa ≤ (1099511627776 : Int)) then bif decide ((([AV.int IntKind.u8 (IntKind.u8.wrap pa)] :: rev45_53 t g n d pa de so we co la inc ps).length + (rev45_8 t g n d pa de so we co la inc ps).length) * (1 : Nat) ≤ (140737488355328 : Nat)) then decide (([AV.int IntKind.u8 (IntKind.u8.wrap pa)] :: rev45_53 t g n d pa de so we co la inc ps).length + (rev45_8 t g n d pa de so we co la inc ps).length ≤ (9223372036854775807 : Nat)) else false else false else false then some (true, AV.sl Tk.imm [Kd.int IntKind.u8] ([AV.int IntKind.u8 (IntKind.u8.wrap pa)] :: rev45_54 t g n d pa de so we co la inc ps), []) else none else none else bif t == (7 : Int) then bif bif decide ((([AV.int IntKind.u8 (IntKind.u8.wrap pa)] :: rev45_1 t g n d pa de so we co la inc ps).length + (List.map ofB d).length) * (1 : Nat) ≤ (140737488355328 : Nat)) then decide (([AV.int IntKind.u8 (IntKind.u8.wrap pa)] :: rev45_1 t g n d pa de so we co la inc ps).length + (List.map ofB d).length ≤ (9223372036854775807 : Nat)) else false then bif bif decide ((0 : Int) ≤ pa) then bif decide (pa ≤ (1099511627776 : Int)) then bif decide ((([AV.int IntKind.u8 (IntKind.u8.wrap pa)] :: rev45_5 t g n d pa de so we co la inc ps).length + (rev45_8 t g n d pa de so we co la inc ps).length) * (1 : Nat) ≤ (140737488355328 : Nat)) then decide (([AV.int IntKind.u8 (IntKind.u8.wrap pa)] :: rev45_5 t g n d pa de so we co la inc ps).length + (rev45_8 t g n d pa de so we co la inc ps).length ≤ (9223372036854775807 : Nat)) else false else false else false then some (true, AV.sl Tk.imm [Kd.int IntKind.u8] ([AV.int IntKind.u8 (IntKind.u8.wrap pa)] :: rev45_11 t g n d pa de so we co la inc ps), []) else none else none else bif t == (3 : Int) then bif bif decide ((([AV.int IntKind.u8 (IntKind.u8.wrap pa)] :: rev45_0 t g n d pa de so we co la inc ps).length + (List.map ofB d).length) * (1 : Nat) ≤ (140737488355328 : Nat)) then decide (([AV.int IntKind.u8 (IntKind.u8.wrap pa)] :: rev45_0 t g n d pa de so we co la inc ps).length + (List.map ofB d).length ≤ (9223372036854775807 : Nat)) else false then bif bif decide ((0 : Int) ≤ pa) then bif decide (pa ≤ (1099511627776 : Int)) then bif decide ((([AV.int IntKind.u8 (IntKind.u8.wrap pa)] :: rev45_4 t g n d pa de so we co la inc ps).length + (rev45_8 t g n d pa de so we co la inc ps).length) * (1 : Nat) ≤ (140737488355328 : Nat)) then decide (([AV.int IntKind.u8 (IntKind.u8.wrap pa)] :: rev45_4 t g n d pa de so we co la inc ps).length + (rev45_8 t g n d pa de so we co la inc ps).length ≤ (9223372036854775807 : Nat)) else false else false else false then some (true, AV.sl Tk.imm [Kd.int IntKind.u8] ([AV.int IntKind.u8 (IntKind.u8.wrap pa)] :: rev45_10 t g n d pa de so we co la inc ps), []) else none else none else bif t == (8 : Int) then bif bif decide ((([AV.int IntKind.u8 (IntKind.u8.wrap pa)] :: rev45_20 t g n d pa de so we co la inc ps).length + (List.map ofB d).length) * (1 : Nat) ≤ (140737488355328 : Nat)) then decide (([AV.int IntKind.u8 (IntKind.u8.wrap pa)] :: rev45_20 t g n d pa de so we co la inc ps).length + (List.map ofB d).length ≤ (9223372036854775807 : Nat)) else false then bif bif decide ((0 : Int) ≤ pa) then bif decide (pa ≤ (1099511627776 : Int)) then bif decide ((([AV.int IntKind.u8 (IntKind.u8.wrap pa)] :: rev45_23 t g n d pa de so we co la inc ps).length + (rev45_8 t g n d pa de so we co la inc ps).length) * (1 : Nat) ≤ (140737488355328 : Nat)) then decide (([AV.int IntKind.u8 (IntKind.u8.wrap pa)] :: rev45_23 t g n d pa de so we co la inc ps).length + (rev45_8 t g n d pa de so we co la inc ps).length ≤ (9223372036854775807 : Nat)) else false else false else false then some (true, AV.sl Tk.imm [Kd.int IntKind.u8] ([AV.int IntKind.u8 (IntKind.u8.wrap pa)] :: rev45_26 t g n d pa de so we co la inc ps), []) else none else none else bif t == (4 : Int) then bif (spI g45_18 n45_18 y45_18 z45_18 d45_18 ((ps, (↑ps.length : Int), t, g, n, d, pa, de, so, we, co, la, inc, ps), (0 : Int), rev45_55 t g n d pa de so we co la inc ps)).fst then bif bif decide (((rev45_57 t g n d pa de so we co la inc ps).length + (List.map ofB d).length) * (1 : Nat) ≤ (140737488355328 : Nat)) then decide ((rev45_57 t g n d pa de so we co la inc ps).length + (List.map ofB d).length ≤ (9223372036854775807 : Nat)) else false then bif bif decide ((0 : Int) ≤ pa) then bif decide (pa ≤ (1099511627776 : Int)) then bif decide (((rev45_58 t g n d pa de so we co la inc ps).length + (rev45_8 t g n d pa de so we co la inc ps).length) * (1 : Nat) ≤ (140737488355328 : Nat)) then decide ((rev45_58 t g n d pa de so we co la inc ps).length + (rev45_8 t g n d pa de so we co la inc ps).length ≤ (9223372036854775807 : Nat)) else false else false else false then some (true, AV.sl Tk.imm [Kd.int IntKind.u8] (rev45_58 t g n d pa de so we co la inc ps ++ rev45_8 t g n d pa de so we co la inc ps), []) else none else none else none else bif bif decide (((rev45_55 t g n d pa de so we co la inc ps).length + (List.map ofB d).length) * (1 : Nat) ≤ (140737488355328 : Nat)) then decide ((rev45_55 t g n d pa de so we co la inc ps).length + (List.map ofB d).length ≤ (9223372036854775807 : Nat)) else false then bif bif decide ((0 : Int) ≤ pa) then bif decide (pa ≤ (1099511627776 : Int)) then bif decide ((([AV.int IntKind.u8 (IntKind.u8.wrap pa)] :: List.map ofB d).length + (rev45_8 t g n d pa de so we co la inc ps).length) * (1 : Nat) ≤ (140737488355328 : Nat)) then decide (([AV.int IntKind.u8 (IntKind.u8.wrap pa)] :: List.map ofB d).length + (rev45_8 t g n d pa de so we co la inc ps).length ≤ (9223372036854775807 : Nat)) else false else false else false then some (true, AV.sl Tk.imm [Kd.int IntKind.u8] ([AV.int IntKind.u8 (IntKind.u8.wrap pa)] :: rev45_9 t g n d pa de so we co la inc ps), []) else none else none else bif vev65_0 t g n d pa de so we co la inc Tk.imm ps then bif so then bif t == (7 : Int) then bif bif decide (((rev45_3 t g n d pa de so we co la inc ps).length + (List.map ofB d).length) * (1 : Nat) ≤ (140737488355328 : Nat)) then decide ((rev45_3 t g n d pa de so we co la inc ps).length + (List.map ofB d).length ≤ (9223372036854775807 : Nat)) else false then bif bif decide ((0 : Int) ≤ pa) then bif decide (pa ≤ (1099511627776 : Int)) then bif decide (((rev45_7 t g n d pa de so we co la inc ps).length + (rev45_8 t g n d pa de so we co la inc ps).length) * (1 : Nat) ≤ (140737488355328 : Nat)) then decide ((rev45_7 t g n d pa de so we co la inc ps).length + (rev45_8 t g n d pa de so we co la inc ps).length ≤ (9223372036854775807 : Nat)) else false else false else false then some (true, AV.sl Tk.imm [Kd.int IntKind.u8] (rev45_13 t g n d pa de so we co la inc ps), []) else none else none else bif t == (3 : Int) then bif bif decide (((rev45_15 t g n d pa de so we co la inc ps).length + (List.map ofB d).length) * (1 : Nat) ≤ (140737488355328 : Nat)) then decide ((rev45_15 t g n d pa de so we co la inc ps).length + (List.map ofB d).length ≤ (9223372036854775807 : Nat)) else false then bif bif decide ((0 : Int) ≤ pa) then bif decide (pa ≤ (1099511627776 : Int)) then bif decide (((rev45_17 t g n d pa de so we co la inc ps).length + (rev45_8 t g n d pa de so we co la inc ps).length) * (1 : Nat) ≤ (140737488355328 : Nat)) then decide ((rev45_17 t g n d pa de so we co la inc ps).length + (rev45_8 t g n d pa de so we co la inc ps).length ≤ (9223372036854775807 : Nat)) else false else false else false then some (true, AV.sl Tk.imm [Kd.int IntKind.u8] (rev45_19 t g n d pa de so we co la inc ps), []) else none else none else bif t == (8 : Int) then bif bif decide (((rev45_22 t g n d pa de so we co la inc ps).length + (List.map ofB d).length) * (1 : Nat) ≤ (140737488355328 : Nat)) then decide ((rev45_22 t g n d pa de so we co la inc ps).length + (List.map ofB d).length ≤ (9223372036854775807 : Nat)) else false then bif bif decide ((0 : Int) ≤ pa) then bif decide (pa ≤ (1099511627776 : Int)) then bif decide (((rev45_25 t g n d pa de so we co la inc ps).length + (rev45_8 t g n d pa de so we co la inc ps).length) * (1 : Nat) ≤ (140737488355328 : Nat)) then decide ((rev45_25 t g n d pa de so we co la inc ps).length + (rev45_8 t g n d pa de so we co la inc ps).length ≤ (9223372036854775807 : Nat)) else false else false else false then some (true, AV.sl Tk.imm [Kd.int IntKind.u8] (rev45_28 t g n d pa de so we co la inc ps), []) else none else none else bif t == (4 : Int) then bif (spI g45_18 n45_18 y45_18 z45_18 d45_18 ((ps, (↑ps.length : Int), t, g, n, d, pa, de, so, we, co, la, inc, ps), (0 : Int), rev45_30 t g n d pa de so we co la inc ps)).fst then bif bif decide (((rev45_60 t g n d pa de so we co la inc ps).length + (List.map ofB d).length) * (1 : Nat) ≤ (140737488355328 : Nat)) then decide ((rev45_60 t g n d pa de so we co la inc ps).length + (List.map ofB d).length ≤ (9223372036854775807 : Nat)) else false then bif bif decide ((0 : Int) ≤ pa) then bif decide (pa ≤ (1099511627776 : Int)) then bif decide (((rev45_61 t g n d pa de so we co la inc ps).length + (rev45_8 t g n d pa de so we co la inc ps).length) * (1 : Nat) ≤ (140737488355328 : Nat)) then decide ((rev45_61 t g n d pa de so we co la inc ps).length + (rev45_8 t g n d pa de so we co la inc ps).length ≤ (9223372036854775807 : Nat)) else false else false else false then some (true, AV.sl Tk.imm [Kd.int IntKind.u8] (rev45_61 t g n d pa de so we co la inc ps ++ rev45_8 t g n d pa de so we co la inc ps), []) else none else none else none else bif bif decide (((rev45_30 t g n d pa de so we co la inc ps).length + (List.map ofB d).length) * (1 : Nat) ≤ (140737488355328 : Nat)) then decide ((rev45_30 t g n d pa de so we co la inc ps).length + (List.map ofB d).length ≤ (9223372036854775807 : Nat)) else false then bif bif decide ((0 : Int) ≤ pa) then bif decide (pa ≤ (1099511627776 : Int)) then bif decide (((rev45_36 t g n d pa de so we co la inc ps).length + (rev45_8 t g n d pa de so we co la inc ps).length) * (1 : Nat) ≤ (140737488355328 : Nat)) then decide ((rev45_36 t g n d pa de so we co la inc ps).length + (rev45_8 t g n d pa de so we co la inc ps).length ≤ (9223372036854775807 : Nat)) else false else false else false then some (true, AV.sl Tk.imm [Kd.int IntKind.u8] (rev45_38 t g n d pa de so we co la inc ps), []) else none else none else bif t == (7 : Int) then bif bif decide (((rev45_39 t g n d pa de so we co la inc ps).length + (List.map ofB d).length) * (1 : Nat) ≤ (140737488355328 : Nat)) then decide ((rev45_39 t g n d pa de so we co la inc ps).length + (List.map ofB d).length ≤ (9223372036854775807 : Nat)) else false then bif bif decide ((0 : Int) ≤ pa) then bif decide (pa ≤ (1099511627776 : Int)) then bif decide (((rev45_40 t g n d pa de so we co la inc ps).length + (rev45_8 t g n d pa de so we co la inc ps).length) * (1 : Nat) ≤ (140737488355328 : Nat)) then decide ((rev45_40 t g n d pa de so we co la inc ps).length + (rev45_8 t g n d pa de so we co la inc ps).length ≤ (9223372036854775807 : Nat)) else false else false else false then some (true, AV.sl Tk.imm [Kd.int IntKind.u8] (rev45_41 t g n d pa de so we co la inc ps), []) else none else none else bif t == (3 : Int) then bif bif decide (((rev45_42 t g n d pa de so we co la inc ps).length + (List.map ofB d).length) * (1 : Nat) ≤ (140737488355328 : Nat)) then decide ((rev45_42 t g n d pa de so we co la inc ps).length + (List.map ofB d).length ≤ (9223372036854775807 : Nat)) else false then bif bif decide ((0 : Int) ≤ pa) then bif decide (pa ≤ (1099511627776 : Int)) then bif decide (((rev45_43 t g n d pa de so we co la inc ps).length + (rev45_8 t g n d pa de so we co la inc ps).length) * (1 : Nat) ≤ (140737488355328 : Nat)) then decide ((rev45_43 t g n d pa de so we co la inc ps).length + (rev45_8 t g n d pa de so we co la inc ps).length ≤ (9223372036854775807 : Nat)) else false else false else false then some (true, AV.sl Tk.imm [Kd.int IntKind.u8] (rev45_44 t g n d pa de so we co la inc ps), []) else none else none else bif t == (8 : Int) then bif bif decide (((rev45_45 t g n d pa de so we co la inc ps).length + (List.map ofB d).length) * (1 : Nat) ≤ (140737488355328 : Nat)) then decide ((rev45_45 t g n d pa de so we co la inc ps).length + (List.map ofB d).length ≤ (9223372036854775807 : Nat)) else false then bif bif decide ((0 : Int) ≤ pa) then bif decide (pa ≤ (1099511627776 : Int)) then bif decide (((rev45_46 t g n d pa de so we co la inc ps).length + (rev45_8 t g n d pa de so we co la inc ps).length) * (1 : Nat) ≤ (140737488355328 : Nat)) then decide ((rev45_46 t g n d pa de so we co la inc ps).length + (rev45_8 t g n d pa de so we co la inc ps).length ≤ (9223372036854775807 : Nat)) else false else false else false then some (true, AV.sl Tk.imm [Kd.int IntKind.u8] (rev45_47 t g n d pa de so we co la inc ps), []) else none else none else bif t == (4 : Int) then bif (spI g45_18 n45_18 y45_18 z45_18 d45_18 ((ps, (↑ps.length : Int), t, g, n, d, pa, de, so, we, co, la, inc, ps), (0 : Int), rev45_48 t g n d pa de so we co la inc ps)).fst then bif bif decide (((rev45_63 t g n d pa de so we co la inc ps).length + (List.map ofB d).length) * (1 : Nat) ≤ (140737488355328 : Nat)) then decide ((rev45_63 t g n d pa de so we co la inc ps).length + (List.map ofB d).length ≤ (9223372036854775807 : Nat)) else false then bif bif decide ((0 : Int) ≤ pa) then bif decide (pa ≤ (1099511627776 : Int)) then bif decide (((rev45_64 t g n d pa de so we co la inc ps).length + (rev45_8 t g n d pa de so we co la inc ps).length) * (1 : Nat) ≤ (140737488355328 : Nat)) then decide ((rev45_64 t g n d pa de so we co la inc ps).length + (rev45_8 t g n d pa de so we co la inc ps).length ≤ (9223372036854775807 : Nat)) else false else false else false then some (true, AV.sl Tk.imm [Kd.int IntKind.u8] (rev45_64 t g n d pa de so we co la inc ps ++ rev45_8 t g n d pa de so we co la inc ps), []) else none else none else none else bif bif decide (((rev45_48 t g n d pa de so we co la inc ps).length + (List.map ofB d).length) * (1 : Nat) ≤ (140737488355328 : Nat)) then decide ((rev45_48 t g n d pa de so we co la inc ps).length + (List.map ofB d).length ≤ (9223372036854775807 : Nat)) else false then bif bif decide ((0 : Int) ≤ pa) then bif decide (pa ≤ (1099511627776 : Int)) then bif decide (((rev45_53 t g n d pa de so we co la inc ps).length + (rev45_8 t g n d pa de so we co la inc ps).length) * (1 : Nat) ≤ (140737488355328 : Nat)) then decide ((rev45_53 t g n d pa de so we co la inc ps).length + (rev45_8 t g n d pa de so we co la inc ps).length ≤ (9223372036854775807 : Nat)) else false else false else false then some (true, AV.sl Tk.imm [Kd.int IntKind.u8] (rev45_54 t g n d pa de so we co la inc ps), []) else none else none else bif t == (7 : Int) then bif bif decide (((rev45_65 t g n d pa de so we co la inc ps).length + (List.map ofB d).length) * (1 : Nat) ≤ (140737488355328 : Nat)) then decide ((rev45_65 t g n d pa de so we co la inc ps).length + (List.map ofB d).length ≤ (9223372036854775807 : Nat)) else false then bif bif decide ((0 : Int) ≤ pa) then bif decide (pa ≤ (1099511627776 : Int)) then bif decide (((rev45_65 t g n d pa de so we co la inc ps ++ List.map ofB d).length + (rev45_8 t g n d pa de so we co la inc ps).length) * (1 : Nat) ≤ (140737488355328 : Nat)) then decide ((rev45_65 t g n d pa de so we co la inc ps ++ List.map ofB d).length + (rev45_8 t g n d pa de so we co la inc ps).length ≤ (9223372036854775807 : Nat)) else false else false else false then some (true, AV.sl Tk.imm [Kd.int IntKind.u8] (rev45_11 t g n d pa de so we co la inc ps), []) else none else none else bif t == (3 : Int) then bif bif decide (((rev45_0 t g n d pa de so we co la inc ps).length + (List.map ofB d).length) * (1 : Nat) ≤ (140737488355328 : Nat)) then decide ((rev45_0 t g n d pa de so we co la inc ps).length + (List.map ofB d).length ≤ (9223372036854775807 : Nat)) else false then bif bif decide ((0 : Int) ≤ pa) then bif decide (pa ≤ (1099511627776 : Int)) then bif decide (((rev45_0 t g n d pa de so we co la inc ps ++ List.map ofB d).length + (rev45_8 t g n d pa de so we co la inc ps).length) * (1 : Nat) ≤ (140737488355328 : Nat)) then decide ((rev45_0 t g n d pa de so we co la inc ps ++ List.map ofB d).length + (rev45_8 t g n d pa de so we co la inc ps).length ≤ (9223372036854775807 : Nat)) else false else false else false then some (true, AV.sl Tk.imm [Kd.int IntKind.u8] (rev45_10 t g n d pa de so we co la inc ps), []) else none else none else bif t == (8 : Int) then bif bif decide (((rev45_20 t g n d pa de so we co la inc ps).length + (List.map ofB d).length) * (1 : Nat) ≤ (140737488355328 : Nat)) then decide ((rev45_20 t g n d pa de so we co la inc ps).length + (List.map ofB d).length ≤ (9223372036854775807 : Nat)) else false then bif bif decide ((0 : Int) ≤ pa) then bif decide (pa ≤ (1099511627776 : Int)) then bif decide (((rev45_20 t g n d pa de so we co la inc ps ++ List.map ofB d).length + (rev45_8 t g n d pa de so we co la inc ps).length) * (1 : Nat) ≤ (140737488355328 : Nat)) then decide ((rev45_20 t g n d pa de so we co la inc ps ++ List.map ofB d).length + (rev45_8 t g n d pa de so we co la inc ps).length ≤ (9223372036854775807 : Nat)) else false else false else false then some (true, AV.sl Tk.imm [Kd.int IntKind.u8] (rev45_26 t g n d pa de so we co la inc ps), []) else none else none else bif t == (4 : Int) then bif (spI g45_18 n45_18 y45_18 z45_18 d45_18 ((ps, (↑ps.length : Int), t, g, n, d, pa, de, so, we, co, la, inc, ps), (0 : Int), [])).fst then bif bif decide (((rev45_67 t g n d pa de so we co la inc ps).length + (List.map ofB d).length) * (1 : Nat) ≤ (140737488355328 : Nat)) then decide ((rev45_67 t g n d pa de so we co la inc ps).length + (List.map ofB d).length ≤ (9223372036854775807 : Nat)) else false then bif bif decide ((0 : Int) ≤ pa) then bif decide (pa ≤ (1099511627776 : Int)) then bif decide (((rev45_68 t g n d pa de so we co la inc ps).length + (rev45_8 t g n d pa de so we co la inc ps).length) * (1 : Nat) ≤ (140737488355328 : Nat)) then decide ((rev45_68 t g n d pa de so we co la inc ps).length + (rev45_8 t g n d pa de so we co la inc ps).length ≤ (9223372036854775807 : Nat)) else false else false else false then some (true, AV.sl Tk.imm [Kd.int IntKind.u8] (rev45_68 t g n d pa de so we co la inc ps ++ rev45_8 t g n d pa de so we co la inc ps), []) else none else none else none else bif bif decide ((List.map ofB d).length * (1 : Nat) ≤ (140737488355328 : Nat)) then decide ((List.map ofB d).length ≤ (9223372036854775807 : Nat)) else false then bif bif decide ((0 : Int) ≤ pa) then bif decide (pa ≤ (1099511627776 : Int)) then bif decide (((List.map ofB d).length + (rev45_8 t g n d pa de so we co la inc ps).length) * (1 : Nat) ≤ (140737488355328 : Nat)) then decide ((List.map ofB d).length + (rev45_8 t g n d pa de so we co la inc ps).length ≤ (9223372036854775807 : Nat)) else false else false else false then some (true, AV.sl Tk.imm [Kd.int IntKind.u8] (rev45_9 t g n d pa de so we co la inc ps), []) else none else none := by kernel_rfl
  rw [h]
  clear h
  unfold vev45_0 vev45_1
  generalize ((spI g45_18 n45_18 y45_18 z45_18 d45_18 ((ps, (↑ps.length : Int), t, g, n, d, pa, de, so, we, co, la, inc, ps), (0 : Int), rev45_48 t g n d pa de so we co la inc ps)).fst) = c0
  generalize ((spI g45_18 n45_18 y45_18 z45_18 d45_18 ((ps, (↑ps.length : Int), t, g, n, d, pa, de, so, we, co, la, inc, ps), (0 : Int), rev45_55 t g n d pa de so we co la inc ps)).fst) = c1
  generalize ((spI g45_18 n45_18 y45_18 z45_18 d45_18 ((ps, (↑ps.length : Int), t, g, n, d, pa, de, so, we, co, la, inc, ps), (0 : Int), rev45_31 t g n d pa de so we co la inc ps)).fst) = c2
  generalize ((spI g45_18 n45_18 y45_18 z45_18 d45_18 ((ps, (↑ps.length : Int), t, g, n, d, pa, de, so, we, co, la, inc, ps), (0 : Int), rev45_49 t g n d pa de so we co la inc ps)).fst) = c3
  generalize ((spI g45_18 n45_18 y45_18 z45_18 d45_18 ((ps, (↑ps.length : Int), t, g, n, d, pa, de, so, we, co, la, inc, ps), (0 : Int), rev45_30 t g n d pa de so we co la inc ps)).fst) = c4
  generalize ((spI g45_18 n45_18 y45_18 z45_18 d45_18 ((ps, (↑ps.length : Int), t, g, n, d, pa, de, so, we, co, la, inc, ps), (0 : Int), [])).fst) = c5
  generalize (decide (((rev45_0 t g n d pa de so we co la inc ps ++ List.map ofB d).length + (rev45_8 t g n d pa de so we co la inc ps).length) * (1 : Nat) ≤ (140737488355328 : Nat))) = c6
  generalize (decide (((rev45_65 t g n d pa de so we co la inc ps ++ List.map ofB d).length + (rev45_8 t g n d pa de so we co la inc ps).length) * (1 : Nat) ≤ (140737488355328 : Nat))) = c7
  generalize (decide (((rev45_20 t g n d pa de so we co la inc ps ++ List.map ofB d).length + (rev45_8 t g n d pa de so we co la inc ps).length) * (1 : Nat) ≤ (140737488355328 : Nat))) = c8
  generalize (decide ((([AV.int IntKind.u8 (IntKind.u8.wrap pa)] :: rev45_53 t g n d pa de so we co la inc ps).length + (rev45_8 t g n d pa de so we co la inc ps).length) * (1 : Nat) ≤ (140737488355328 : Nat))) = c9
  generalize (decide ((([AV.int IntKind.u8 (IntKind.u8.wrap pa)] :: rev45_23 t g n d pa de so we co la inc ps).length + (rev45_8 t g n d pa de so we co la inc ps).length) * (1 : Nat) ≤ (140737488355328 : Nat))) = c10
  generalize (decide ((([AV.int IntKind.u8 (IntKind.u8.wrap pa)] :: rev45_40 t g n d pa de so we co la inc ps).length + (rev45_8 t g n d pa de so we co la inc ps).length) * (1 : Nat) ≤ (140737488355328 : Nat))) = c11
  generalize (decide ((([AV.int IntKind.u8 (IntKind.u8.wrap pa)] :: rev45_43 t g n d pa de so we co la inc ps).length + (rev45_8 t g n d pa de so we co la inc ps).length) * (1 : Nat) ≤ (140737488355328 : Nat))) = c12
  generalize (decide ((([AV.int IntKind.u8 (IntKind.u8.wrap pa)] :: rev45_46 t g n d pa de so we co la inc ps).length + (rev45_8 t g n d pa de so we co la inc ps).length) * (1 : Nat) ≤ (140737488355328 : Nat))) = c13
  generalize (decide ((([AV.int IntKind.u8 (IntKind.u8.wrap pa)] :: rev45_7 t g n d pa de so we co la inc ps).length + (rev45_8 t g n d pa de so we co la inc ps).length) * (1 : Nat) ≤ (140737488355328 : Nat))) = c14
  generalize (decide ((([AV.int IntKind.u8 (IntKind.u8.wrap pa)] :: rev45_5 t g n d pa de so we co la inc ps).length + (rev45_8 t g n d pa de so we co la inc ps).length) * (1 : Nat) ≤ (140737488355328 : Nat))) = c15
  generalize (decide ((([AV.int IntKind.u8 (IntKind.u8.wrap pa)] :: rev45_4 t g n d pa de so we co la inc ps).length + (rev45_8 t g n d pa de so we co la inc ps).length) * (1 : Nat) ≤ (140737488355328 : Nat))) = c16
  generalize (decide ((([AV.int IntKind.u8 (IntKind.u8.wrap pa)] :: rev45_25 t g n d pa de so we co la inc ps).length + (rev45_8 t g n d pa de so we co la inc ps).length) * (1 : Nat) ≤ (140737488355328 : Nat))) = c17
  generalize (decide ((([AV.int IntKind.u8 (IntKind.u8.wrap pa)] :: rev45_36 t g n d pa de so we co la inc ps).length + (rev45_8 t g n d pa de so we co la inc ps).length) * (1 : Nat) ≤ (140737488355328 : Nat))) = c18
  generalize (decide ((([AV.int IntKind.u8 (IntKind.u8.wrap pa)] :: rev45_17 t g n d pa de so we co la inc ps).length + (rev45_8 t g n d pa de so we co la inc ps).length) * (1 : Nat) ≤ (140737488355328 : Nat))) = c19
  generalize (decide ((rev45_65 t g n d pa de so we co la inc ps ++ List.map ofB d).length + (rev45_8 t g n d pa de so we co la inc ps).length ≤ (9223372036854775807 : Nat))) = c20
  generalize (decide ((rev45_0 t g n d pa de so we co la inc ps ++ List.map ofB d).length + (rev45_8 t g n d pa de so we co la inc ps).length ≤ (9223372036854775807 : Nat))) = c21
  generalize (decide ((rev45_20 t g n d pa de so we co la inc ps ++ List.map ofB d).length + (rev45_8 t g n d pa de so we co la inc ps).length ≤ (9223372036854775807 : Nat))) = c22
  generalize (decide ((([AV.int IntKind.u8 (IntKind.u8.wrap pa)] :: rev45_39 t g n d pa de so we co la inc ps).length + (List.map ofB d).length) * (1 : Nat) ≤ (140737488355328 : Nat))) = c23
  generalize (decide ((([AV.int IntKind.u8 (IntKind.u8.wrap pa)] :: List.map ofB d).length + (rev45_8 t g n d pa de so we co la inc ps).length) * (1 : Nat) ≤ (140737488355328 : Nat))) = c24
  generalize (decide ((([AV.int IntKind.u8 (IntKind.u8.wrap pa)] :: rev45_15 t g n d pa de so we co la inc ps).length + (List.map ofB d).length) * (1 : Nat) ≤ (140737488355328 : Nat))) = c25
  generalize (decide ((([AV.int IntKind.u8 (IntKind.u8.wrap pa)] :: rev45_1 t g n d pa de so we co la inc ps).length + (List.map ofB d).length) * (1 : Nat) ≤ (140737488355328 : Nat))) = c26
  generalize (decide ((([AV.int IntKind.u8 (IntKind.u8.wrap pa)] :: rev45_22 t g n d pa de so we co la inc ps).length + (List.map ofB d).length) * (1 : Nat) ≤ (140737488355328 : Nat))) = c27
  generalize (decide ((([AV.int IntKind.u8 (IntKind.u8.wrap pa)] :: rev45_42 t g n d pa de so we co la inc ps).length + (List.map ofB d).length) * (1 : Nat) ≤ (140737488355328 : Nat))) = c28
  generalize (decide ((([AV.int IntKind.u8 (IntKind.u8.wrap pa)] :: rev45_0 t g n d pa de so we co la inc ps).length + (List.map ofB d).length) * (1 : Nat) ≤ (140737488355328 : Nat))) = c29
  generalize (decide ((([AV.int IntKind.u8 (IntKind.u8.wrap pa)] :: rev45_45 t g n d pa de so we co la inc ps).length + (List.map ofB d).length) * (1 : Nat) ≤ (140737488355328 : Nat))) = c30
  generalize (decide ((([AV.int IntKind.u8 (IntKind.u8.wrap pa)] :: rev45_3 t g n d pa de so we co la inc ps).length + (List.map ofB d).length) * (1 : Nat) ≤ (140737488355328 : Nat))) = c31
  generalize (decide ((([AV.int IntKind.u8 (IntKind.u8.wrap pa)] :: rev45_20 t g n d pa de so we co la inc ps).length + (List.map ofB d).length) * (1 : Nat) ≤ (140737488355328 : Nat))) = c32
  generalize (decide (([AV.int IntKind.u8 (IntKind.u8.wrap pa)] :: rev45_4 t g n d pa de so we co la inc ps).length + (rev45_8 t g n d pa de so we co la inc ps).length ≤ (9223372036854775807 : Nat))) = c33
  generalize (decide (((rev45_36 t g n d pa de so we co la inc ps).length + (rev45_8 t g n d pa de so we co la inc ps).length) * (1 : Nat) ≤ (140737488355328 : Nat))) = c34
  generalize (decide (((rev45_52 t g n d pa de so we co la inc ps).length + (rev45_8 t g n d pa de so we co la inc ps).length) * (1 : Nat) ≤ (140737488355328 : Nat))) = c35
  generalize (decide (([AV.int IntKind.u8 (IntKind.u8.wrap pa)] :: rev45_53 t g n d pa de so we co la inc ps).length + (rev45_8 t g n d pa de so we co la inc ps).length ≤ (9223372036854775807 : Nat))) = c36
  generalize (decide (([AV.int IntKind.u8 (IntKind.u8.wrap pa)] :: rev45_17 t g n d pa de so we co la inc ps).length + (rev45_8 t g n d pa de so we co la inc ps).length ≤ (9223372036854775807 : Nat))) = c37
  generalize (decide (([AV.int IntKind.u8 (IntKind.u8.wrap pa)] :: rev45_36 t g n d pa de so we co la inc ps).length + (rev45_8 t g n d pa de so we co la inc ps).length ≤ (9223372036854775807 : Nat))) = c38
  generalize (decide (([AV.int IntKind.u8 (IntKind.u8.wrap pa)] :: rev45_5 t g n d pa de so we co la inc ps).length + (rev45_8 t g n d pa de so we co la inc ps).length ≤ (9223372036854775807 : Nat))) = c39
  generalize (decide (([AV.int IntKind.u8 (IntKind.u8.wrap pa)] :: rev45_40 t g n d pa de so we co la inc ps).length + (rev45_8 t g n d pa de so we co la inc ps).length ≤ (9223372036854775807 : Nat))) = c40
  generalize (decide (([AV.int IntKind.u8 (IntKind.u8.wrap pa)] :: rev45_23 t g n d pa de so we co la inc ps).length + (rev45_8 t g n d pa de so we co la inc ps).length ≤ (9223372036854775807 : Nat))) = c41
  generalize (decide (((rev45_58 t g n d pa de so we co la inc ps).length + (rev45_8 t g n d pa de so we co la inc ps).length) * (1 : Nat) ≤ (140737488355328 : Nat))) = c42
  generalize (decide (((rev45_7 t g n d pa de so we co la inc ps).length + (rev45_8 t g n d pa de so we co la inc ps).length) * (1 : Nat) ≤ (140737488355328 : Nat))) = c43
  generalize (decide (((rev45_17 t g n d pa de so we co la inc ps).length + (rev45_8 t g n d pa de so we co la inc ps).length) * (1 : Nat) ≤ (140737488355328 : Nat))) = c44
  generalize (decide (((rev45_25 t g n d pa de so we co la inc ps).length + (rev45_8 t g n d pa de so we co la inc ps).length) * (1 : Nat) ≤ (140737488355328 : Nat))) = c45
  generalize (decide (((rev45_61 t g n d pa de so we co la inc ps).length + (rev45_8 t g n d pa de so we co la inc ps).length) * (1 : Nat) ≤ (140737488355328 : Nat))) = c46
  generalize (decide (((rev45_53 t g n d pa de so we co la inc ps).length + (rev45_8 t g n d pa de so we co la inc ps).length) * (1 : Nat) ≤ (140737488355328 : Nat))) = c47
  generalize (decide (((rev45_40 t g n d pa de so we co la inc ps).length + (rev45_8 t g n d pa de so we co la inc ps).length) * (1 : Nat) ≤ (140737488355328 : Nat))) = c48
  generalize (decide (((rev45_43 t g n d pa de so we co la inc ps).length + (rev45_8 t g n d pa de so we co la inc ps).length) * (1 : Nat) ≤ (140737488355328 : Nat))) = c49
  generalize (decide (((rev45_46 t g n d pa de so we co la inc ps).length + (rev45_8 t g n d pa de so we co la inc ps).length) * (1 : Nat) ≤ (140737488355328 : Nat))) = c50
  generalize (decide (([AV.int IntKind.u8 (IntKind.u8.wrap pa)] :: rev45_25 t g n d pa de so we co la inc ps).length + (rev45_8 t g n d pa de so we co la inc ps).length ≤ (9223372036854775807 : Nat))) = c51
  generalize (decide (((rev45_64 t g n d pa de so we co la inc ps).length + (rev45_8 t g n d pa de so we co la inc ps).length) * (1 : Nat) ≤ (140737488355328 : Nat))) = c52
  generalize (decide (([AV.int IntKind.u8 (IntKind.u8.wrap pa)] :: rev45_46 t g n d pa de so we co la inc ps).length + (rev45_8 t g n d pa de so we co la inc ps).length ≤ (9223372036854775807 : Nat))) = c53
  generalize (decide (([AV.int IntKind.u8 (IntKind.u8.wrap pa)] :: rev45_43 t g n d pa de so we co la inc ps).length + (rev45_8 t g n d pa de so we co la inc ps).length ≤ (9223372036854775807 : Nat))) = c54
  generalize (decide (([AV.int IntKind.u8 (IntKind.u8.wrap pa)] :: rev45_7 t g n d pa de so we co la inc ps).length + (rev45_8 t g n d pa de so we co la inc ps).length ≤ (9223372036854775807 : Nat))) = c55
  generalize (decide (((rev45_34 t g n d pa de so we co la inc ps).length + (rev45_8 t g n d pa de so we co la inc ps).length) * (1 : Nat) ≤ (140737488355328 : Nat))) = c56
  generalize (decide (((rev45_68 t g n d pa de so we co la inc ps).length + (rev45_8 t g n d pa de so we co la inc ps).length) * (1 : Nat) ≤ (140737488355328 : Nat))) = c57
  generalize (decide (((rev45_49 t g n d pa de so we co la inc ps).length + (List.map ofB d).length) * (1 : Nat) ≤ (140737488355328 : Nat))) = c58
  generalize (decide (((rev45_22 t g n d pa de so we co la inc ps).length + (List.map ofB d).length) * (1 : Nat) ≤ (140737488355328 : Nat))) = c59
  generalize (decide (((rev45_48 t g n d pa de so we co la inc ps).length + (List.map ofB d).length) * (1 : Nat) ≤ (140737488355328 : Nat))) = c60
  generalize (decide (([AV.int IntKind.u8 (IntKind.u8.wrap pa)] :: rev45_42 t g n d pa de so we co la inc ps).length + (List.map ofB d).length ≤ (9223372036854775807 : Nat))) = c61
  generalize (decide (((rev45_60 t g n d pa de so we co la inc ps).length + (List.map ofB d).length) * (1 : Nat) ≤ (140737488355328 : Nat))) = c62
  generalize (decide (([AV.int IntKind.u8 (IntKind.u8.wrap pa)] :: rev45_22 t g n d pa de so we co la inc ps).length + (List.map ofB d).length ≤ (9223372036854775807 : Nat))) = c63
  generalize (decide (((rev45_30 t g n d pa de so we co la inc ps).length + (List.map ofB d).length) * (1 : Nat) ≤ (140737488355328 : Nat))) = c64
  generalize (decide (([AV.int IntKind.u8 (IntKind.u8.wrap pa)] :: rev45_20 t g n d pa de so we co la inc ps).length + (List.map ofB d).length ≤ (9223372036854775807 : Nat))) = c65
  generalize (decide (((rev45_39 t g n d pa de so we co la inc ps).length + (List.map ofB d).length) * (1 : Nat) ≤ (140737488355328 : Nat))) = c66
  generalize (decide (((rev45_31 t g n d pa de so we co la inc ps).length + (List.map ofB d).length) * (1 : Nat) ≤ (140737488355328 : Nat))) = c67
  generalize (decide (((rev45_42 t g n d pa de so we co la inc ps).length + (List.map ofB d).length) * (1 : Nat) ≤ (140737488355328 : Nat))) = c68
  generalize (decide (([AV.int IntKind.u8 (IntKind.u8.wrap pa)] :: rev45_1 t g n d pa de so we co la inc ps).length + (List.map ofB d).length ≤ (9223372036854775807 : Nat))) = c69
  generalize (decide (((rev45_45 t g n d pa de so we co la inc ps).length + (List.map ofB d).length) * (1 : Nat) ≤ (140737488355328 : Nat))) = c70
  generalize (decide (((rev45_57 t g n d pa de so we co la inc ps).length + (List.map ofB d).length) * (1 : Nat) ≤ (140737488355328 : Nat))) = c71
  generalize (decide (([AV.int IntKind.u8 (IntKind.u8.wrap pa)] :: rev45_3 t g n d pa de so we co la inc ps).length + (List.map ofB d).length ≤ (9223372036854775807 : Nat))) = c72
  generalize (decide (((rev45_63 t g n d pa de so we co la inc ps).length + (List.map ofB d).length) * (1 : Nat) ≤ (140737488355328 : Nat))) = c73
  generalize (decide (((rev45_55 t g n d pa de so we co la inc ps).length + (List.map ofB d).length) * (1 : Nat) ≤ (140737488355328 : Nat))) = c74
  generalize (decide (((rev45_33 t g n d pa de so we co la inc ps).length + (List.map ofB d).length) * (1 : Nat) ≤ (140737488355328 : Nat))) = c75
  generalize (decide (([AV.int IntKind.u8 (IntKind.u8.wrap pa)] :: rev45_15 t g n d pa de so we co la inc ps).length + (List.map ofB d).length ≤ (9223372036854775807 : Nat))) = c76
  generalize (decide (((rev45_65 t g n d pa de so we co la inc ps).length + (List.map ofB d).length) * (1 : Nat) ≤ (140737488355328 : Nat))) = c77
  generalize (decide (([AV.int IntKind.u8 (IntKind.u8.wrap pa)] :: List.map ofB d).length + (rev45_8 t g n d pa de so we co la inc ps).length ≤ (9223372036854775807 : Nat))) = c78
  generalize (decide (((rev45_3 t g n d pa de so we co la inc ps).length + (List.map ofB d).length) * (1 : Nat) ≤ (140737488355328 : Nat))) = c79
  generalize (decide (((rev45_0 t g n d pa de so we co la inc ps).length + (List.map ofB d).length) * (1 : Nat) ≤ (140737488355328 : Nat))) = c80
  generalize (decide (([AV.int IntKind.u8 (IntKind.u8.wrap pa)] :: rev45_45 t g n d pa de so we co la inc ps).length + (List.map ofB d).length ≤ (9223372036854775807 : Nat))) = c81
  generalize (decide (((rev45_51 t g n d pa de so we co la inc ps).length + (List.map ofB d).length) * (1 : Nat) ≤ (140737488355328 : Nat))) = c82
  generalize (decide (((rev45_20 t g n d pa de so we co la inc ps).length + (List.map ofB d).length) * (1 : Nat) ≤ (140737488355328 : Nat))) = c83
  generalize (decide (([AV.int IntKind.u8 (IntKind.u8.wrap pa)] :: rev45_0 t g n d pa de so we co la inc ps).length + (List.map ofB d).length ≤ (9223372036854775807 : Nat))) = c84
  generalize (decide (((rev45_15 t g n d pa de so we co la inc ps).length + (List.map ofB d).length) * (1 : Nat) ≤ (140737488355328 : Nat))) = c85
  generalize (decide (([AV.int IntKind.u8 (IntKind.u8.wrap pa)] :: rev45_39 t g n d pa de so we co la inc ps).length + (List.map ofB d).length ≤ (9223372036854775807 : Nat))) = c86
  generalize (decide (((rev45_67 t g n d pa de so we co la inc ps).length + (List.map ofB d).length) * (1 : Nat) ≤ (140737488355328 : Nat))) = c87
  generalize (decide (((List.map ofB d).length + (rev45_8 t g n d pa de so we co la inc ps).length) * (1 : Nat) ≤ (140737488355328 : Nat))) = c88
  generalize (decide ((rev45_58 t g n d pa de so we co la inc ps).length + (rev45_8 t g n d pa de so we co la inc ps).length ≤ (9223372036854775807 : Nat))) = c89
  generalize (decide ((rev45_36 t g n d pa de so we co la inc ps).length + (rev45_8 t g n d pa de so we co la inc ps).length ≤ (9223372036854775807 : Nat))) = c90
  generalize (decide ((rev45_17 t g n d pa de so we co la inc ps).length + (rev45_8 t g n d pa de so we co la inc ps).length ≤ (9223372036854775807 : Nat))) = c91
  generalize (decide ((rev45_43 t g n d pa de so we co la inc ps).length + (rev45_8 t g n d pa de so we co la inc ps).length ≤ (9223372036854775807 : Nat))) = c92
  generalize (decide ((rev45_61 t g n d pa de so we co la inc ps).length + (rev45_8 t g n d pa de so we co la inc ps).length ≤ (9223372036854775807 : Nat))) = c93
  generalize (decide ((rev45_52 t g n d pa de so we co la inc ps).length + (rev45_8 t g n d pa de so we co la inc ps).length ≤ (9223372036854775807 : Nat))) = c94
  generalize (decide ((rev45_46 t g n d pa de so we co la inc ps).length + (rev45_8 t g n d pa de so we co la inc ps).length ≤ (9223372036854775807 : Nat))) = c95
  generalize (decide ((rev45_7 t g n d pa de so we co la inc ps).length + (rev45_8 t g n d pa de so we co la inc ps).length ≤ (9223372036854775807 : Nat))) = c96
  generalize (decide ((rev45_34 t g n d pa de so we co la inc ps).length + (rev45_8 t g n d pa de so we co la inc ps).length ≤ (9223372036854775807 : Nat))) = c97
  generalize (decide ((rev45_25 t g n d pa de so we co la inc ps).length + (rev45_8 t g n d pa de so we co la inc ps).length ≤ (9223372036854775807 : Nat))) = c98
  generalize (decide ((rev45_64 t g n d pa de so we co la inc ps).length + (rev45_8 t g n d pa de so we co la inc ps).length ≤ (9223372036854775807 : Nat))) = c99
  generalize (decide ((rev45_68 t g n d pa de so we co la inc ps).length + (rev45_8 t g n d pa de so we co la inc ps).length ≤ (9223372036854775807 : Nat))) = c100
  generalize (decide ((rev45_40 t g n d pa de so we co la inc ps).length + (rev45_8 t g n d pa de so we co la inc ps).length ≤ (9223372036854775807 : Nat))) = c101
  generalize (decide ((rev45_53 t g n d pa de so we co la inc ps).length + (rev45_8 t g n d pa de so we co la inc ps).length ≤ (9223372036854775807 : Nat))) = c102
  generalize (decide ((List.map ofB d).length + (rev45_8 t g n d pa de so we co la inc ps).length ≤ (9223372036854775807 : Nat))) = c103
  generalize (decide ((rev45_0 t g n d pa de so we co la inc ps).length + (List.map ofB d).length ≤ (9223372036854775807 : Nat))) = c104
  generalize (decide ((rev45_3 t g n d pa de so we co la inc ps).length + (List.map ofB d).length ≤ (9223372036854775807 : Nat))) = c105
  generalize (decide ((rev45_22 t g n d pa de so we co la inc ps).length + (List.map ofB d).length ≤ (9223372036854775807 : Nat))) = c106
  generalize (decide ((rev45_57 t g n d pa de so we co la inc ps).length + (List.map ofB d).length ≤ (9223372036854775807 : Nat))) = c107
  generalize (decide ((rev45_63 t g n d pa de so we co la inc ps).length + (List.map ofB d).length ≤ (9223372036854775807 : Nat))) = c108
  generalize (decide ((rev45_60 t g n d pa de so we co la inc ps).length + (List.map ofB d).length ≤ (9223372036854775807 : Nat))) = c109
  generalize (decide ((rev45_48 t g n d pa de so we co la inc ps).length + (List.map ofB d).length ≤ (9223372036854775807 : Nat))) = c110
  generalize (decide ((rev45_55 t g n d pa de so we co la inc ps).length + (List.map ofB d).length ≤ (9223372036854775807 : Nat))) = c111
  generalize (decide ((rev45_33 t g n d pa de so we co la inc ps).length + (List.map ofB d).length ≤ (9223372036854775807 : Nat))) = c112
  generalize (decide ((rev45_65 t g n d pa de so we co la inc ps).length + (List.map ofB d).length ≤ (9223372036854775807 : Nat))) = c113
  generalize (decide ((rev45_30 t g n d pa de so we co la inc ps).length + (List.map ofB d).length ≤ (9223372036854775807 : Nat))) = c114
  generalize (decide ((rev45_51 t g n d pa de so we co la inc ps).length + (List.map ofB d).length ≤ (9223372036854775807 : Nat))) = c115
  generalize (decide ((rev45_15 t g n d pa de so we co la inc ps).length + (List.map ofB d).length ≤ (9223372036854775807 : Nat))) = c116
  generalize (decide ((rev45_39 t g n d pa de so we co la inc ps).length + (List.map ofB d).length ≤ (9223372036854775807 : Nat))) = c117
  generalize (decide ((rev45_20 t g n d pa de so we co la inc ps).length + (List.map ofB d).length ≤ (9223372036854775807 : Nat))) = c118
  generalize (decide ((rev45_49 t g n d pa de so we co la inc ps).length + (List.map ofB d).length ≤ (9223372036854775807 : Nat))) = c119
  generalize (decide ((rev45_31 t g n d pa de so we co la inc ps).length + (List.map ofB d).length ≤ (9223372036854775807 : Nat))) = c120
  generalize (decide ((rev45_42 t g n d pa de so we co la inc ps).length + (List.map ofB d).length ≤ (9223372036854775807 : Nat))) = c121
  generalize (decide ((rev45_67 t g n d pa de so we co la inc ps).length + (List.map ofB d).length ≤ (9223372036854775807 : Nat))) = c122
  generalize (decide ((rev45_45 t g n d pa de so we co la inc ps).length + (List.map ofB d).length ≤ (9223372036854775807 : Nat))) = c123
  generalize (decide ((List.map ofB d).length * (1 : Nat) ≤ (140737488355328 : Nat))) = c124
  generalize (decide ((List.map ofB d).length ≤ (9223372036854775807 : Nat))) = c125
  generalize (decide ((0 : Int) ≤ pa)) = c126
  generalize (decide (pa ≤ (1099511627776 : Int))) = c127
  generalize (vev65_0 t g n d pa de so we co la inc Tk.imm ps) = c128
  generalize (vev64_0 t g n d pa de so we co la inc Tk.imm ps) = c129
  generalize (t == (4 : Int)) = c130
  generalize (t == (3 : Int)) = c131
  generalize (t == (7 : Int)) = c132
  generalize (t == (8 : Int)) = c133
  generalize (so) = c134
  cases c129; cases c128; cases c132; cases c131; cases c133; cases c130; cases c124; rfl; cases c125; rfl; cases c126; rfl; cases c127; rfl
  cases c88; rfl; cases c103; rfl; rfl; cases c5; rfl; cases c87; rfl; cases c122; rfl; cases c126; rfl; cases c127; rfl; cases c57; rfl; cases c100
  rfl; rfl; cases c83; rfl; cases c118; rfl; cases c126; rfl; cases c127; rfl; cases c8; rfl; cases c22; rfl; rfl; cases c80; rfl; cases c104; rfl
  cases c126; rfl; cases c127; rfl; cases c6; rfl; cases c21; rfl; rfl; cases c77; rfl; cases c113; rfl; cases c126; rfl; cases c127; rfl; cases c7
  rfl; cases c20; rfl; rfl; cases c134; cases c132; cases c131; cases c133; cases c130; cases c60; rfl; cases c110; rfl; cases c126; rfl; cases c127
  rfl; cases c47; rfl; cases c102; rfl; rfl; cases c0; rfl; cases c73; rfl; cases c108; rfl; cases c126; rfl; cases c127; rfl; cases c52; rfl
  cases c99; rfl; rfl; cases c70; rfl; cases c123; rfl; cases c126; rfl; cases c127; rfl; cases c50; rfl; cases c95; rfl; rfl; cases c68; rfl
  cases c121; rfl; cases c126; rfl; cases c127; rfl; cases c49; rfl; cases c92; rfl; rfl; cases c66; rfl; cases c117; rfl; cases c126; rfl; cases c127
  rfl; cases c48; rfl; cases c101; rfl; rfl; cases c132; cases c131; cases c133; cases c130; cases c64; rfl; cases c114; rfl; cases c126; rfl
  cases c127; rfl; cases c34; rfl; cases c90; rfl; rfl; cases c4; rfl; cases c62; rfl; cases c109; rfl; cases c126; rfl; cases c127; rfl; cases c46
  rfl; cases c93; rfl; rfl; cases c59; rfl; cases c106; rfl; cases c126; rfl; cases c127; rfl; cases c45; rfl; cases c98; rfl; rfl; cases c85; rfl
  cases c116; rfl; cases c126; rfl; cases c127; rfl; cases c44; rfl; cases c91; rfl; rfl; cases c79; rfl; cases c105; rfl; cases c126; rfl; cases c127
  rfl; cases c43; rfl; cases c96; rfl; rfl; cases c128; cases c132; cases c131; cases c133; cases c130; cases c74; rfl; cases c111; rfl; cases c126
  rfl; cases c127; rfl; cases c24; rfl; cases c78; rfl; rfl; cases c1; rfl; cases c71; rfl; cases c107; rfl; cases c126; rfl; cases c127; rfl
  cases c42; rfl; cases c89; rfl; rfl; cases c32; rfl; cases c65; rfl; cases c126; rfl; cases c127; rfl; cases c10; rfl; cases c41; rfl; rfl
  cases c29; rfl; cases c84; rfl; cases c126; rfl; cases c127; rfl; cases c16; rfl; cases c33; rfl; rfl; cases c26; rfl; cases c69; rfl; cases c126
  rfl; cases c127; rfl; cases c15; rfl; cases c39; rfl; rfl; cases c134; cases c132; cases c131; cases c133; cases c130; cases c58; rfl; cases c119
  rfl; cases c126; rfl; cases c127; rfl; cases c9; rfl; cases c36; rfl; rfl; cases c3; rfl; cases c82; rfl; cases c115; rfl; cases c126; rfl
  cases c127; rfl; cases c35; rfl; cases c94; rfl; rfl; cases c30; rfl; cases c81; rfl; cases c126; rfl; cases c127; rfl; cases c13; rfl; cases c53
  rfl; rfl; cases c28; rfl; cases c61; rfl; cases c126; rfl; cases c127; rfl; cases c12; rfl; cases c54; rfl; rfl; cases c23; rfl; cases c86; rfl
  cases c126; rfl; cases c127; rfl; cases c11; rfl; cases c40; rfl; rfl; cases c132; cases c131; cases c133; cases c130; cases c67; rfl; cases c120
  rfl; cases c126; rfl; cases c127; rfl; cases c18; rfl; cases c38; rfl; rfl; cases c2; rfl; cases c75; rfl; cases c112; rfl; cases c126; rfl
  cases c127; rfl; cases c56; rfl; cases c97; rfl; rfl; cases c27; rfl; cases c63; rfl; cases c126; rfl; cases c127; rfl; cases c17; rfl; cases c51
  rfl; rfl; cases c25; rfl; cases c76; rfl; cases c126; rfl; cases c127; rfl; cases c19; rfl; cases c37; rfl; rfl; cases c31; rfl; cases c72; rfl
  cases c126; rfl; cases c127; rfl; cases c14; rfl; cases c55; rfl; rfl
-- spec vev45_1 t g n d pa de so we co la inc ps ;; (true, AV.sl Tk.imm [Kd.int IntKind.u8] (vev45_0 t g n d pa de so we co la inc ps), [])
noncomputable def sp45 : List AV → List Blk → Option (Bool × AV × List Blk)
  | [.agg [.int .u8 t, .int .u8 g, .int .i64 n, .str d, .int .i64 pa, .int .i64 de, .bool so, .int .u8 we, .int .u32 co, .int .i64 la, .int .i64 inc, .sl .imm [.int .u16, .int .u32] ps]], [] => spW (vev45_1 t g n d pa de so we co la inc ps) (some ((true, AV.sl Tk.imm [Kd.int IntKind.u8] (vev45_0 t g n d pa de so we co la inc ps), [])))
  | _, _ => none
noncomputable def k45 : Gam := fun f T C => match Nat.beq f 45 with
  | true => (sp45 T C).or (k66 f T C)
  | false => k66 f T C
theorem k45_ok : GamOK Try.prog k45 := by
  intro f T C r outs h
  unfold k45 at h
  cases hf : Nat.beq f 45 with
  | false => rw [hf] at h; exact k66_ok f T C r outs h
  | true =>
    have hf' := Nat.eq_of_beq_eq_true hf
    subst hf'
    rw [hf] at h
    dsimp only at h
    cases hs : sp45 T C with
    | none => rw [hs] at h; exact k66_ok _ T C r outs h
    | some x =>
      rw [hs] at h
      have hx : x = (true, r, outs) := by simpa using h
      subst hx
      unfold sp45 at hs
      split at hs
      · rename_i t g n d pa de so we co la inc ps
        obtain ⟨hb, rfl, rfl⟩ := spT_inv hs
        have he := ev45 t g n d pa de so we co la inc ps
        rw [hb, cond_true] at he
        obtain ⟨r0, o0, h0, he⟩ := evFin_inv he
        obtain ⟨h1, h2⟩ := fn_ok mixed plain (gk_ok k66_ok 30) Try.func45 loops45 h0
        exact ⟨h1, h2.fin he⟩
      · cases hs
noncomputable def rev19_0 (t g n : Int) (d : List UInt8) (pa de : Int) (so : Bool) (we co la inc : Int) (ps : List (List AV)) : Int := (↑(vev45_0 t g n d pa de so we co la inc ps).length : Int)
noncomputable def vev19_0 (t g n : Int) (d : List UInt8) (pa de : Int) (so : Bool) (we co la inc : Int) (ps : List (List AV)) : Int := bif !vev49_0 n then (8 : Int) else bif !vev49_0 de then (8 : Int) else bif !vev49_0 la then (8 : Int) else bif !vev49_0 inc then (8 : Int) else bif decide (pa < (0 : Int)) then (8 : Int) else bif decide (pa > (255 : Int)) then (8 : Int) else bif vev50_0 t g n d pa de so we co la inc ps then (4 : Int) else bif decide (rev19_0 t g n d pa de so we co la inc ps > (16384 : Int)) then (5 : Int) else (0 : Int)
noncomputable def vev19_1 (t g n : Int) (d : List UInt8) (pa de : Int) (so : Bool) (we co la inc : Int) (ps : List (List AV)) : Bool := bif !vev49_0 n then true else bif !vev49_0 de then true else bif !vev49_0 la then true else bif !vev49_0 inc then true else bif decide (pa < (0 : Int)) then true else bif decide (pa > (255 : Int)) then true else bif vev50_0 t g n d pa de so we co la inc ps then true else bif vev45_1 t g n d pa de so we co la inc ps then true else false
theorem ev19 (t g n : Int) (d : List UInt8) (pa de : Int) (so : Bool) (we co la inc : Int) (ps : List (List AV)) : evFin (cfg Try.prog tab 100000 (gk k45 30) noLsp 19 ([] : List Blk).length Try.f19.ntmps) ([] : List Blk).length Try.f19.resultTypes.toList Try.f19 [.agg [.int .u8 t, .int .u8 g, .int .i64 n, .str d, .int .i64 pa, .int .i64 de, .bool so, .int .u8 we, .int .u32 co, .int .i64 la, .int .i64 inc, .sl .imm [.int .u16, .int .u32] ps]] [] = bif vev19_1 t g n d pa de so we co la inc ps then some (true, AV.int IntKind.i64 (vev19_0 t g n d pa de so we co la inc ps), []) else none := by
  have h : evFin (cfg Try.prog tab 100000 (gk k45 30) noLsp 19 ([] : List Blk).length Try.f19.ntmps) ([] : List Blk).length Try.f19.resultTypes.toList Try.f19 [.agg [.int .u8 t, .int .u8 g, .int .i64 n, .str d, .int .i64 pa, .int .i64 de, .bool so, .int .u8 we, .int .u32 co, .int .i64 la, .int .i64 inc, .sl .imm [.int .u16, .int .u32] ps]] [] = bif !vev49_0 n then bif !vev49_0 n then some (true, AV.int IntKind.i64 (8 : Int), []) else bif vev50_0 t g n d pa de so we co la inc ps then some (true, AV.int IntKind.i64 (4 : Int), []) else bif vev45_1 t g n d pa de so we co la inc ps then bif decide (rev19_0 t g n d pa de so we co la inc ps > (16384 : Int)) then some (true, AV.int IntKind.i64 (5 : Int), []) else some (true, AV.int IntKind.i64 (0 : Int), []) else none else bif !vev49_0 de then bif !vev49_0 de then some (true, AV.int IntKind.i64 (8 : Int), []) else bif vev50_0 t g n d pa de so we co la inc ps then some (true, AV.int IntKind.i64 (4 : Int), []) else bif vev45_1 t g n d pa de so we co la inc ps then bif decide (rev19_0 t g n d pa de so we co la inc ps > (16384 : Int)) then some (true, AV.int IntKind.i64 (5 : Int), []) else some (true, AV.int IntKind.i64 (0 : Int), []) else none else bif !vev49_0 la then bif !vev49_0 la then some (true, AV.int IntKind.i64 (8 : Int), []) else bif vev50_0 t g n d pa de so we co la inc ps then some (true, AV.int IntKind.i64 (4 : Int), []) else bif vev45_1 t g n d pa de so we co la inc ps then bif decide (rev19_0 t g n d pa de so we co la inc ps > (16384 : Int)) then some (true, AV.int IntKind.i64 (5 : Int), []) else some (true, AV.int IntKind.i64 (0 : Int), []) else none else bif !vev49_0 inc then bif !vev49_0 inc then some (true, AV.int IntKind.i64 (8 : Int), []) else bif vev50_0 t g n d pa de so we co la inc ps then some (true, AV.int IntKind.i64 (4 : Int), []) else bif vev45_1 t g n d pa de so we co la inc ps then bif decide (rev19_0 t g n d pa de so we co la inc ps > (16384 : Int)) then some (true, AV.int IntKind.i64 (5 : Int), []) else some (true, AV.int IntKind.i64 (0 : Int), []) else none else bif decide (pa < (0 : Int)) then bif decide (pa < (0 : Int)) then some (true, AV.int IntKind.i64 (8 : Int), []) else bif vev50_0 t g n d pa de so we co la inc ps then some (true, AV.int IntKind.i64 (4 : Int), []) else bif vev45_1 t g n d pa de so we co la inc ps then bif decide (rev19_0 t g n d pa de so we co la inc ps > (16384 : Int)) then some (true, AV.int IntKind.i64 (5 : Int), []) else some (true, AV.int IntKind.i64 (0 : Int), []) else none else bif decide (pa > (255 : Int)) then some (true, AV.int IntKind.i64 (8 : Int), []) else bif vev50_0 t g n d pa de so we co la inc ps then some (true, AV.int IntKind.i64 (4 : Int), []) else bif vev45_1 t g n d pa de so we co la inc ps then bif decide (rev19_0 t g n d pa de so we co la inc ps > (16384 : Int)) then some (true, AV.int IntKind.i64 (5 : Int), []) else some (true, AV.int IntKind.i64 (0 : Int), []) else none := by kernel_rfl
  rw [h]
  clear h
  unfold vev19_0 vev19_1
  generalize (decide (rev19_0 t g n d pa de so we co la inc ps > (16384 : Int))) = c0
  generalize (decide (pa < (0 : Int))) = c1
  generalize (decide (pa > (255 : Int))) = c2
  generalize (vev50_0 t g n d pa de so we co la inc ps) = c3
  generalize (vev45_1 t g n d pa de so we co la inc ps) = c4
  generalize (!vev49_0 de) = c5
  generalize (!vev49_0 la) = c6
  generalize (!vev49_0 inc) = c7
  generalize (!vev49_0 n) = c8
  cases c8; cases c5; cases c6; cases c7; cases c1; cases c2; cases c3; cases c4; rfl; cases c0; rfl; rfl; rfl; rfl; rfl; rfl; rfl; rfl; rfl
-- spec vev19_1 t g n d pa de so we co la inc ps ;; (true, AV.int IntKind.i64 (vev19_0 t g n d pa de so we co la inc ps), [])
noncomputable def sp19 : List AV → List Blk → Option (Bool × AV × List Blk)
  | [.agg [.int .u8 t, .int .u8 g, .int .i64 n, .str d, .int .i64 pa, .int .i64 de, .bool so, .int .u8 we, .int .u32 co, .int .i64 la, .int .i64 inc, .sl .imm [.int .u16, .int .u32] ps]], [] => spW (vev19_1 t g n d pa de so we co la inc ps) (some ((true, AV.int IntKind.i64 (vev19_0 t g n d pa de so we co la inc ps), [])))
  | _, _ => none
noncomputable def k19 : Gam := fun f T C => match Nat.beq f 19 with
  | true => (sp19 T C).or (k45 f T C)
  | false => k45 f T C
theorem k19_ok : GamOK Try.prog k19 := by
  intro f T C r outs h
  unfold k19 at h
  cases hf : Nat.beq f 19 with
  | false => rw [hf] at h; exact k45_ok f T C r outs h
  | true =>
    have hf' := Nat.eq_of_beq_eq_true hf
    subst hf'
    rw [hf] at h
    dsimp only at h
    cases hs : sp19 T C with
    | none => rw [hs] at h; exact k45_ok _ T C r outs h
    | some x =>
      rw [hs] at h
      have hx : x = (true, r, outs) := by simpa using h
      subst hx
      unfold sp19 at hs
      split at hs
      · rename_i t g n d pa de so we co la inc ps
        obtain ⟨hb, rfl, rfl⟩ := spT_inv hs
        have he := ev19 t g n d pa de so we co la inc ps
        rw [hb, cond_true] at he
        obtain ⟨r0, o0, h0, he⟩ := evFin_inv he
        obtain ⟨h1, h2⟩ := fn_ok mixed plain (gk_ok k45_ok 30) Try.func19 (fun c _ => LoopsOK.none (fun _ _ => rfl) c) h0
        exact ⟨h1, h2.fin he⟩
      · cases hs
noncomputable def vev67_0 (l t g n : Int) : Int := bif bif decide (l < (0 : Int)) then true else bif decide (l > (16777215 : Int)) then true else bif decide (n < (0 : Int)) then true else decide (n > (2147483647 : Int)) then (8 : Int) else (0 : Int)
theorem ev67 (l t g n : Int) : evFin (cfg Try.prog tab 100000 (gk k19 30) noLsp 67 ([] : List Blk).length Try.f67.ntmps) ([] : List Blk).length Try.f67.resultTypes.toList Try.f67 [.agg [.int .i64 l, .int .u8 t, .int .u8 g, .int .i64 n]] [] = bif true then some (true, AV.int IntKind.i64 (vev67_0 l t g n), []) else none := by
  have h : evFin (cfg Try.prog tab 100000 (gk k19 30) noLsp 67 ([] : List Blk).length Try.f67.ntmps) ([] : List Blk).length Try.f67.resultTypes.toList Try.f67 [.agg [.int .i64 l, .int .u8 t, .int .u8 g, .int .i64 n]] [] = bif bif decide (l < (0 : Int)) then true else bif bif false then true else decide (l > (16777215 : Int)) then true else bif bif false then true else decide (n < (0 : Int)) then true else true then bif bif decide (l < (0 : Int)) then true else bif bif false then true else decide (l > (16777215 : Int)) then true else bif bif false then true else decide (n < (0 : Int)) then true else bif false then true else decide (n > (2147483647 : Int)) then some (true, AV.int IntKind.i64 (8 : Int), []) else some (true, AV.int IntKind.i64 (0 : Int), []) else none := by kernel_rfl
  rw [h]
  clear h
  unfold vev67_0
  generalize (decide (n > (2147483647 : Int))) = c0
  generalize (decide (l < (0 : Int))) = c1
  generalize (decide (l > (16777215 : Int))) = c2
  generalize (decide (n < (0 : Int))) = c3
  cases c1; cases c2; cases c3; cases c0; rfl; rfl; rfl; rfl; rfl
-- spec true ;; (true, AV.int IntKind.i64 (vev67_0 l t g n), [])
noncomputable def sp67 : List AV → List Blk → Option (Bool × AV × List Blk)
  | [.agg [.int .i64 l, .int .u8 t, .int .u8 g, .int .i64 n]], [] => spW (true) (some ((true, AV.int IntKind.i64 (vev67_0 l t g n), [])))
  | _, _ => none
noncomputable def k67 : Gam := fun f T C => match Nat.beq f 67 with
  | true => (sp67 T C).or (k19 f T C)
  | false => k19 f T C
theorem k67_ok : GamOK Try.prog k67 := by
  intro f T C r outs h
  unfold k67 at h
  cases hf : Nat.beq f 67 with
  | false => rw [hf] at h; exact k19_ok f T C r outs h
  | true =>
    have hf' := Nat.eq_of_beq_eq_true hf
    subst hf'
    rw [hf] at h
    dsimp only at h
    cases hs : sp67 T C with
    | none => rw [hs] at h; exact k19_ok _ T C r outs h
    | some x =>
      rw [hs] at h
      have hx : x = (true, r, outs) := by simpa using h
      subst hx
      unfold sp67 at hs
      split at hs
      · rename_i l t g n
        obtain ⟨hb, rfl, rfl⟩ := spT_inv hs
        have he := ev67 l t g n
        obtain ⟨r0, o0, h0, he⟩ := evFin_inv he
        obtain ⟨h1, h2⟩ := fn_ok mixed plain (gk_ok k19_ok 30) Try.func67 (fun c _ => LoopsOK.none (fun _ _ => rfl) c) h0
        exact ⟨h1, h2.fin he⟩
      · cases hs
noncomputable def vev46_0 (l t g n : Int) : List (List AV) := bif vev67_0 l t g n != (0 : Int) then [] else [[AV.int IntKind.u8 (IntKind.u8.wrap ((IntKind.u32.wrap l).fdiv ((2 : Int) ^ min (Int.toNat (16 : Int)) IntKind.u32.bits)))], [AV.int IntKind.u8 (IntKind.u8.wrap ((IntKind.u32.wrap l).fdiv ((2 : Int) ^ min (Int.toNat (8 : Int)) IntKind.u32.bits)))], [AV.int IntKind.u8 (IntKind.u8.wrap (IntKind.u32.wrap l))], [AV.int IntKind.u8 t], [AV.int IntKind.u8 g], [AV.int IntKind.u8 (IntKind.u8.wrap ((IntKind.u32.wrap n).fdiv ((2 : Int) ^ min (Int.toNat (24 : Int)) IntKind.u32.bits)))], [AV.int IntKind.u8 (IntKind.u8.wrap ((IntKind.u32.wrap n).fdiv ((2 : Int) ^ min (Int.toNat (16 : Int)) IntKind.u32.bits)))], [AV.int IntKind.u8 (IntKind.u8.wrap ((IntKind.u32.wrap n).fdiv ((2 : Int) ^ min (Int.toNat (8 : Int)) IntKind.u32.bits)))], [AV.int IntKind.u8 (IntKind.u8.wrap (IntKind.u32.wrap n))]]
noncomputable def vev46_1 (l t g n : Int) : Int := bif vev67_0 l t g n != (0 : Int) then vev67_0 l t g n else (0 : Int)
theorem ev46 (l t g n : Int) : evFin (cfg Try.prog tab 100000 (gk k67 30) noLsp 46 ([] : List Blk).length Try.f46.ntmps) ([] : List Blk).length Try.f46.resultTypes.toList Try.f46 [.agg [.int .i64 l, .int .u8 t, .int .u8 g, .int .i64 n]] [] = some (true, AV.tup [AV.sl Tk.imm [Kd.int IntKind.u8] (vev46_0 l t g n), AV.int IntKind.i64 (vev46_1 l t g n)], []) := by
  have h : evFin (cfg Try.prog tab 100000 (gk k67 30) noLsp 46 ([] : List Blk).length Try.f46.ntmps) ([] : List Blk).length Try.f46.resultTypes.toList Try.f46 [.agg [.int .i64 l, .int .u8 t, .int .u8 g, .int .i64 n]] [] = bif vev67_0 l t g n != (0 : Int) then some (true, AV.tup [AV.sl Tk.imm [Kd.int IntKind.u8] [], AV.int IntKind.i64 (vev67_0 l t g n)], []) else some (true, AV.tup [AV.sl Tk.imm [Kd.int IntKind.u8] [[AV.int IntKind.u8 (IntKind.u8.wrap ((IntKind.u32.wrap l).fdiv ((2 : Int) ^ min (Int.toNat (16 : Int)) IntKind.u32.bits)))], [AV.int IntKind.u8 (IntKind.u8.wrap ((IntKind.u32.wrap l).fdiv ((2 : Int) ^ min (Int.toNat (8 : Int)) IntKind.u32.bits)))], [AV.int IntKind.u8 (IntKind.u8.wrap (IntKind.u32.wrap l))], [AV.int IntKind.u8 t], [AV.int IntKind.u8 g], [AV.int IntKind.u8 (IntKind.u8.wrap ((IntKind.u32.wrap n).fdiv ((2 : Int) ^ min (Int.toNat (24 : Int)) IntKind.u32.bits)))], [AV.int IntKind.u8 (IntKind.u8.wrap ((IntKind.u32.wrap n).fdiv ((2 : Int) ^ min (Int.toNat (16 : Int)) IntKind.u32.bits)))], [AV.int IntKind.u8 (IntKind.u8.wrap ((IntKind.u32.wrap n).fdiv ((2 : Int) ^ min (Int.toNat (8 : Int)) IntKind.u32.bits)))], [AV.int IntKind.u8 (IntKind.u8.wrap (IntKind.u32.wrap n))]], AV.int IntKind.i64 (0 : Int)], []) := by kernel_rfl
  rw [h]
  clear h
  unfold vev46_0 vev46_1
  generalize (vev67_0 l t g n != (0 : Int)) = c0
  cases c0
  · skip
    rfl
  · skip
    rfl
-- spec true ;; (true, AV.tup [AV.sl Tk.imm [Kd.int IntKind.u8] (vev46_0 l t g n), AV.int IntKind.i64 (vev46_1 l t g n)], [])
noncomputable def sp46 : List AV → List Blk → Option (Bool × AV × List Blk)
  | [.agg [.int .i64 l, .int .u8 t, .int .u8 g, .int .i64 n]], [] => spW (true) (some ((true, AV.tup [AV.sl Tk.imm [Kd.int IntKind.u8] (vev46_0 l t g n), AV.int IntKind.i64 (vev46_1 l t g n)], [])))
  | _, _ => none
noncomputable def k46 : Gam := fun f T C => match Nat.beq f 46 with
  | true => (sp46 T C).or (k67 f T C)
  | false => k67 f T C
theorem k46_ok : GamOK Try.prog k46 := by
  intro f T C r outs h
  unfold k46 at h
  cases hf : Nat.beq f 46 with
  | false => rw [hf] at h; exact k67_ok f T C r outs h
  | true =>
    have hf' := Nat.eq_of_beq_eq_true hf
    subst hf'
    rw [hf] at h
    dsimp only at h
    cases hs : sp46 T C with
    | none => rw [hs] at h; exact k67_ok _ T C r outs h
    | some x =>
      rw [hs] at h
      have hx : x = (true, r, outs) := by simpa using h
      subst hx
      unfold sp46 at hs
      split at hs
      · rename_i l t g n
        obtain ⟨hb, rfl, rfl⟩ := spT_inv hs
        have he := ev46 l t g n
        obtain ⟨r0, o0, h0, he⟩ := evFin_inv he
        obtain ⟨h1, h2⟩ := fn_ok mixed plain (gk_ok k67_ok 30) Try.func46 (fun c _ => LoopsOK.none (fun _ _ => rfl) c) h0
        exact ⟨h1, h2.fin he⟩
      · cases hs
noncomputable def rev17_0 (t g n : Int) (d : List UInt8) (pa de : Int) (so : Bool) (we co la inc : Int) (ps : List (List AV)) : Int := vev19_0 t g n d pa de so we co la inc ps
noncomputable def rev17_1 (t g n : Int) (d : List UInt8) (pa de : Int) (so : Bool) (we co la inc : Int) (ps : List (List AV)) : Int := vev46_1 (↑(vev45_0 t g n d pa de so we co la inc ps).length : Int) t g n
noncomputable def vev17_0 (t g n : Int) (d : List UInt8) (pa de : Int) (so : Bool) (we co la inc : Int) (ps : List (List AV)) : Int := bif rev17_0 t g n d pa de so we co la inc ps != (0 : Int) then rev17_0 t g n d pa de so we co la inc ps else rev17_1 t g n d pa de so we co la inc ps
noncomputable def vev17_1 (t g n : Int) (d : List UInt8) (pa de : Int) (so : Bool) (we co la inc : Int) (ps : List (List AV)) : Bool := bif vev19_1 t g n d pa de so we co la inc ps then bif rev17_0 t g n d pa de so we co la inc ps != (0 : Int) then true else bif vev45_1 t g n d pa de so we co la inc ps then bif rev17_1 t g n d pa de so we co la inc ps != (0 : Int) then true else false else false else false
theorem ev17 (t g n : Int) (d : List UInt8) (pa de : Int) (so : Bool) (we co la inc : Int) (ps : List (List AV)) : evFin (cfg Try.prog tab 100000 (gk k46 30) noLsp 17 ([] : List Blk).length Try.f17.ntmps) ([] : List Blk).length Try.f17.resultTypes.toList Try.f17 [.agg [.int .u8 t, .int .u8 g, .int .i64 n, .str d, .int .i64 pa, .int .i64 de, .bool so, .int .u8 we, .int .u32 co, .int .i64 la, .int .i64 inc, .sl .imm [.int .u16, .int .u32] ps]] [] = bif vev17_1 t g n d pa de so we co la inc ps then some (true, AV.tup [AV.sl Tk.imm [Kd.int IntKind.u8] [], AV.int IntKind.i64 (vev17_0 t g n d pa de so we co la inc ps)], []) else none := by
  have h : evFin (cfg Try.prog tab 100000 (gk k46 30) noLsp 17 ([] : List Blk).length Try.f17.ntmps) ([] : List Blk).length Try.f17.resultTypes.toList Try.f17 [.agg [.int .u8 t, .int .u8 g, .int .i64 n, .str d, .int .i64 pa, .int .i64 de, .bool so, .int .u8 we, .int .u32 co, .int .i64 la, .int .i64 inc, .sl .imm [.int .u16, .int .u32] ps]] [] = bif vev19_1 t g n d pa de so we co la inc ps then bif rev17_0 t g n d pa de so we co la inc ps != (0 : Int) then some (true, AV.tup [AV.sl Tk.imm [Kd.int IntKind.u8] [], AV.int IntKind.i64 (rev17_0 t g n d pa de so we co la inc ps)], []) else bif vev45_1 t g n d pa de so we co la inc ps then bif rev17_1 t g n d pa de so we co la inc ps != (0 : Int) then some (true, AV.tup [AV.sl Tk.imm [Kd.int IntKind.u8] [], AV.int IntKind.i64 (rev17_1 t g n d pa de so we co la inc ps)], []) else none else none else none := by kernel_rfl
  rw [h]
  clear h
  unfold vev17_0 vev17_1
  generalize (rev17_1 t g n d pa de so we co la inc ps != (0 : Int)) = c0
  generalize (rev17_0 t g n d pa de so we co la inc ps != (0 : Int)) = c1
  generalize (vev19_1 t g n d pa de so we co la inc ps) = c2
  generalize (vev45_1 t g n d pa de so we co la inc ps) = c3
  cases c2; rfl; cases c1; cases c3; rfl; cases c0; rfl; rfl; rfl
-- spec vev17_1 t g n d pa de so we co la inc ps ;; (true, AV.tup [AV.sl Tk.imm [Kd.int IntKind.u8] [], AV.int IntKind.i64 (vev17_0 t g n d pa de so we co la inc ps)], [])
noncomputable def sp17 : List AV → List Blk → Option (Bool × AV × List Blk)
  | [.agg [.int .u8 t, .int .u8 g, .int .i64 n, .str d, .int .i64 pa, .int .i64 de, .bool so, .int .u8 we, .int .u32 co, .int .i64 la, .int .i64 inc, .sl .imm [.int .u16, .int .u32] ps]], [] => spW (vev17_1 t g n d pa de so we co la inc ps) (some ((true, AV.tup [AV.sl Tk.imm [Kd.int IntKind.u8] [], AV.int IntKind.i64 (vev17_0 t g n d pa de so we co la inc ps)], [])))
  | _, _ => none
noncomputable def k17 : Gam := fun f T C => match Nat.beq f 17 with
  | true => (sp17 T C).or (k46 f T C)
  | false => k46 f T C
theorem k17_ok : GamOK Try.prog k17 := by
  intro f T C r outs h
  unfold k17 at h
  cases hf : Nat.beq f 17 with
  | false => rw [hf] at h; exact k46_ok f T C r outs h
  | true =>
    have hf' := Nat.eq_of_beq_eq_true hf
    subst hf'
    rw [hf] at h
    dsimp only at h
    cases hs : sp17 T C with
    | none => rw [hs] at h; exact k46_ok _ T C r outs h
    | some x =>
      rw [hs] at h
      have hx : x = (true, r, outs) := by simpa using h
      subst hx
      unfold sp17 at hs
      split at hs
      · rename_i t g n d pa de so we co la inc ps
        obtain ⟨hb, rfl, rfl⟩ := spT_inv hs
        have he := ev17 t g n d pa de so we co la inc ps
        rw [hb, cond_true] at he
        obtain ⟨r0, o0, h0, he⟩ := evFin_inv he
        obtain ⟨h1, h2⟩ := fn_ok mixed plain (gk_ok k46_ok 30) Try.func17 (fun c _ => LoopsOK.none (fun _ _ => rfl) c) h0
        exact ⟨h1, h2.fin he⟩
      · cases hs
noncomputable def vev21_0 (t g n : Int) (d : List UInt8) (pa de : Int) (so : Bool) (we co la inc : Int) (ps : List (List AV)) : Int := bif vev19_0 t g n d pa de so we co la inc ps != (0 : Int) then (0 : Int) else (↑(vev45_0 t g n d pa de so we co la inc ps).length : Int)
noncomputable def vev21_1 (t g n : Int) (d : List UInt8) (pa de : Int) (so : Bool) (we co la inc : Int) (ps : List (List AV)) : Bool := bif vev19_1 t g n d pa de so we co la inc ps then bif vev19_0 t g n d pa de so we co la inc ps != (0 : Int) then true else bif vev45_1 t g n d pa de so we co la inc ps then true else false else false
theorem ev21 (t g n : Int) (d : List UInt8) (pa de : Int) (so : Bool) (we co la inc : Int) (ps : List (List AV)) : evFin (cfg Try.prog tab 100000 (gk k17 30) noLsp 21 ([] : List Blk).length Try.f21.ntmps) ([] : List Blk).length Try.f21.resultTypes.toList Try.f21 [.agg [.int .u8 t, .int .u8 g, .int .i64 n, .str d, .int .i64 pa, .int .i64 de, .bool so, .int .u8 we, .int .u32 co, .int .i64 la, .int .i64 inc, .sl .imm [.int .u16, .int .u32] ps]] [] = bif vev21_1 t g n d pa de so we co la inc ps then some (true, AV.int IntKind.i64 (vev21_0 t g n d pa de so we co la inc ps), []) else none := by
  have h : evFin (cfg Try.prog tab 100000 (gk k17 30) noLsp 21 ([] : List Blk).length Try.f21.ntmps) ([] : List Blk).length Try.f21.resultTypes.toList Try.f21 [.agg [.int .u8 t, .int .u8 g, .int .i64 n, .str d, .int .i64 pa, .int .i64 de, .bool so, .int .u8 we, .int .u32 co, .int .i64 la, .int .i64 inc, .sl .imm [.int .u16, .int .u32] ps]] [] = bif vev19_1 t g n d pa de so we co la inc ps then bif vev19_0 t g n d pa de so we co la inc ps != (0 : Int) then some (true, AV.int IntKind.i64 (0 : Int), []) else bif vev45_1 t g n d pa de so we co la inc ps then some (true, AV.int IntKind.i64 (↑(vev45_0 t g n d pa de so we co la inc ps).length : Int), []) else none else none := by kernel_rfl
  rw [h]
  clear h
  unfold vev21_0 vev21_1
  generalize (vev19_0 t g n d pa de so we co la inc ps != (0 : Int)) = c0
  generalize (vev45_1 t g n d pa de so we co la inc ps) = c1
  generalize (vev19_1 t g n d pa de so we co la inc ps) = c2
  cases c2; rfl; cases c0; cases c1; rfl; rfl; rfl
-- spec vev21_1 t g n d pa de so we co la inc ps ;; (true, AV.int IntKind.i64 (vev21_0 t g n d pa de so we co la inc ps), [])
noncomputable def sp21 : List AV → List Blk → Option (Bool × AV × List Blk)
  | [.agg [.int .u8 t, .int .u8 g, .int .i64 n, .str d, .int .i64 pa, .int .i64 de, .bool so, .int .u8 we, .int .u32 co, .int .i64 la, .int .i64 inc, .sl .imm [.int .u16, .int .u32] ps]], [] => spW (vev21_1 t g n d pa de so we co la inc ps) (some ((true, AV.int IntKind.i64 (vev21_0 t g n d pa de so we co la inc ps), [])))
  | _, _ => none
noncomputable def k21 : Gam := fun f T C => match Nat.beq f 21 with
  | true => (sp21 T C).or (k17 f T C)
  | false => k17 f T C
theorem k21_ok : GamOK Try.prog k21 := by
  intro f T C r outs h
  unfold k21 at h
  cases hf : Nat.beq f 21 with
  | false => rw [hf] at h; exact k17_ok f T C r outs h
  | true =>
    have hf' := Nat.eq_of_beq_eq_true hf
    subst hf'
    rw [hf] at h
    dsimp only at h
    cases hs : sp21 T C with
    | none => rw [hs] at h; exact k17_ok _ T C r outs h
    | some x =>
      rw [hs] at h
      have hx : x = (true, r, outs) := by simpa using h
      subst hx
      unfold sp21 at hs
      split at hs
      · rename_i t g n d pa de so we co la inc ps
        obtain ⟨hb, rfl, rfl⟩ := spT_inv hs
        have he := ev21 t g n d pa de so we co la inc ps
        rw [hb, cond_true] at he
        obtain ⟨r0, o0, h0, he⟩ := evFin_inv he
        obtain ⟨h1, h2⟩ := fn_ok mixed plain (gk_ok k17_ok 30) Try.func21 (fun c _ => LoopsOK.none (fun _ _ => rfl) c) h0
        exact ⟨h1, h2.fin he⟩
      · cases hs
noncomputable def go53_4 (t0k : Tk) (t0 : List (List AV)) (t1k : Tk) (t1 : List (List AV)) (t12 t13 : Int) : Bool := bif decide (t13 < t12) then bif decide ((0 : Int) ≤ t13) && decide (t13 < (↑t0.length : Int)) then bif decide ((0 : Int) ≤ t13) && decide (t13 < (↑t1.length : Int)) then bif !(intOf ((t0.getD t13.toNat []).getD (0 : Nat) AV.junk) == intOf ((t1.getD t13.toNat []).getD (0 : Nat) AV.junk) && (intOf ((t0.getD t13.toNat []).getD ((0 : Nat) + (1 : Nat)) AV.junk) == intOf ((t1.getD t13.toNat []).getD ((0 : Nat) + (1 : Nat)) AV.junk) && true)) then false else true else false else false else false
noncomputable def nx53_4_5 (t0k : Tk) (t0 : List (List AV)) (t1k : Tk) (t1 : List (List AV)) (t12 t13 : Int) : Int := IntKind.i64.wrap (t13 + (1 : Int))
noncomputable def xc53_4_0 (t0k : Tk) (t0 : List (List AV)) (t1k : Tk) (t1 : List (List AV)) (t12 t13 : Int) : Bool := bif decide (t13 < t12) then bif decide ((0 : Int) ≤ t13) && decide (t13 < (↑t0.length : Int)) then bif decide ((0 : Int) ≤ t13) && decide (t13 < (↑t1.length : Int)) then !(intOf ((t0.getD t13.toNat []).getD (0 : Nat) AV.junk) == intOf ((t1.getD t13.toNat []).getD (0 : Nat) AV.junk) && (intOf ((t0.getD t13.toNat []).getD ((0 : Nat) + (1 : Nat)) AV.junk) == intOf ((t1.getD t13.toNat []).getD ((0 : Nat) + (1 : Nat)) AV.junk) && true)) else false else false else false
noncomputable def xc53_4_1 (t0k : Tk) (t0 : List (List AV)) (t1k : Tk) (t1 : List (List AV)) (t12 t13 : Int) : Bool := bif decide (t13 < t12) then false else true
theorem rd53_4 (rest : Lsp) (t0k : Tk) (t0 : List (List AV)) (t1k : Tk) (t1 : List (List AV)) (t12 t13 : Int) : roundV (cfg Try.prog tab 100000 (gk k21 30) rest 53 0 Try.f53.ntmps) (loopAt Try.f53 4) [0, 1, 12, 13] [] [4] [] [AV.sl t0k [Kd.int IntKind.u16, Kd.int IntKind.u32] t0, AV.sl t1k [Kd.int IntKind.u16, Kd.int IntKind.u32] t1, AV.int IntKind.i64 t12, AV.int IntKind.i64 t13] [] = bif go53_4 t0k t0 t1k t1 t12 t13 then some (Ex.norm, [AV.sl t0k [Kd.int IntKind.u16, Kd.int IntKind.u32] t0, AV.sl t1k [Kd.int IntKind.u16, Kd.int IntKind.u32] t1, AV.int IntKind.i64 t12, AV.int IntKind.i64 (nx53_4_5 t0k t0 t1k t1 t12 t13)], []) else bif xc53_4_0 t0k t0 t1k t1 t12 t13 then some (Ex.ret, [AV.bool false], []) else bif xc53_4_1 t0k t0 t1k t1 t12 t13 then some (Ex.exit (nat_lit 0), [AV.junk], []) else none := by
  have h : roundV (cfg Try.prog tab 100000 (gk k21 30) rest 53 0 Try.f53.ntmps) (loopAt Try.f53 4) [0, 1, 12, 13] [] [4] [] [AV.sl t0k [Kd.int IntKind.u16, Kd.int IntKind.u32] t0, AV.sl t1k [Kd.int IntKind.u16, Kd.int IntKind.u32] t1, AV.int IntKind.i64 t12, AV.int IntKind.i64 t13] [] = bif decide (t13 < t12) then bif decide ((0 : Int) ≤ t13) && decide (t13 < (↑t0.length : Int)) then bif decide ((0 : Int) ≤ t13) && decide (t13 < (↑t1.length : Int)) then bif !(intOf ((t0.getD t13.toNat []).getD (0 : Nat) AV.junk) == intOf ((t1.getD t13.toNat []).getD (0 : Nat) AV.junk) && (intOf ((t0.getD t13.toNat []).getD ((0 : Nat) + (1 : Nat)) AV.junk) == intOf ((t1.getD t13.toNat []).getD ((0 : Nat) + (1 : Nat)) AV.junk) && true)) then some (Ex.ret, [AV.bool false], []) else some (Ex.norm, [AV.sl t0k [Kd.int IntKind.u16, Kd.int IntKind.u32] t0, AV.sl t1k [Kd.int IntKind.u16, Kd.int IntKind.u32] t1, AV.int IntKind.i64 t12, AV.int IntKind.i64 (IntKind.i64.wrap (t13 + (1 : Int)))], []) else none else none else some (Ex.exit (nat_lit 0), [AV.junk], []) := by kernel_rfl
  rw [h]
  clear h
  unfold go53_4 nx53_4_5 xc53_4_0 xc53_4_1
  generalize (!(intOf ((t0.getD t13.toNat []).getD (0 : Nat) AV.junk) == intOf ((t1.getD t13.toNat []).getD (0 : Nat) AV.junk) && (intOf ((t0.getD t13.toNat []).getD ((0 : Nat) + (1 : Nat)) AV.junk) == intOf ((t1.getD t13.toNat []).getD ((0 : Nat) + (1 : Nat)) AV.junk) && true))) = c0
  generalize (decide ((0 : Int) ≤ t13) && decide (t13 < (↑t0.length : Int))) = c1
  generalize (decide ((0 : Int) ≤ t13) && decide (t13 < (↑t1.length : Int))) = c2
  generalize (decide (t13 < t12)) = c3
  cases c3; rfl; cases c1; rfl; cases c2; rfl; cases c0; rfl; rfl
abbrev pl53_4 : Type := Tk × (List (List AV)) × Tk × (List (List AV)) × Int
abbrev sl53_4 : Type := Int
noncomputable def vt53_4 (a : pl53_4 × sl53_4) : List AV := [AV.sl a.1.1 [Kd.int IntKind.u16, Kd.int IntKind.u32] a.1.2.1, AV.sl a.1.2.2.1 [Kd.int IntKind.u16, Kd.int IntKind.u32] a.1.2.2.2.1, AV.int IntKind.i64 a.1.2.2.2.2, AV.int IntKind.i64 a.2]
noncomputable def vc53_4 (a : pl53_4 × sl53_4) : List Blk := []
noncomputable def de53_4 (vt : List AV) (vc : List Blk) : Option (pl53_4 × sl53_4) :=
  match vt with
  | [qa0, qa1, qa2, qa3] => (match vc with
  | [] => (match qa0 with
  | AV.sl t0k [Kd.int IntKind.u16, Kd.int IntKind.u32] t0 => (match qa1 with
  | AV.sl t1k [Kd.int IntKind.u16, Kd.int IntKind.u32] t1 => (match qa2 with
  | AV.int IntKind.i64 t12 => (match qa3 with
  | AV.int IntKind.i64 t13 => (some ((t0k, t0, t1k, t1, t12), t13))
  | _ => none)
  | _ => none)
  | _ => none)
  | _ => none)
  | _ => none)
  | _ => none
theorem de53_4_ok (vt : List AV) (vc : List Blk) (a : pl53_4 × sl53_4) (h : de53_4 vt vc = some a) : vt = vt53_4 a ∧ vc = vc53_4 a := by
  unfold de53_4 at h
  split at h
  rotate_left
  · cases h
  split at h
  rotate_left
  · cases h
  split at h
  rotate_left
  · cases h
  split at h
  rotate_left
  · cases h
  split at h
  rotate_left
  · cases h
  split at h
  rotate_left
  · cases h
  injection h with h
  subst h
  exact ⟨rfl, rfl⟩
noncomputable def g53_4 (p : pl53_4) (s : sl53_4) : Bool := go53_4 p.1 p.2.1 p.2.2.1 p.2.2.2.1 p.2.2.2.2 s
noncomputable def n53_4 (p : pl53_4) (s : sl53_4) : sl53_4 := nx53_4_5 p.1 p.2.1 p.2.2.1 p.2.2.2.1 p.2.2.2.2 s
noncomputable def y53_4 (p : pl53_4) (s : sl53_4) : List (Bool × Out) := [(xc53_4_0 p.1 p.2.1 p.2.2.1 p.2.2.2.1 p.2.2.2.2 s, (Ex.ret, [AV.bool false], []))]
noncomputable def z53_4 (p : pl53_4) (s : sl53_4) : Bool := xc53_4_1 p.1 p.2.1 p.2.2.1 p.2.2.2.1 p.2.2.2.2 s
noncomputable def d53_4 (p : pl53_4) (s : sl53_4) : Out := (Ex.exit (nat_lit 0), [AV.junk], [])
noncomputable def ls53_4 : St → Option (Bool × List (Bool × Ex × St) × Ex × St) := lspOf [0, 1, 12, 13] [] [4] [] Try.f53.ntmps (0 + tab.nid 53) de53_4 (spI g53_4 n53_4 y53_4 z53_4 d53_4)
theorem lo53_4 (rest : Lsp) : LoopOK1 (cfg Try.prog tab 100000 (gk k21 30) (selL 4 ls53_4 rest) 53 0 Try.f53.ntmps) (loopAt Try.f53 4) := LoopOK1.iter (i := 4) (by kernel_rfl) [0, 1, 12, 13] [] [4] [] vt53_4 vc53_4 de53_4 g53_4 n53_4 y53_4 z53_4 d53_4 (fun _ => rfl) de53_4_ok (fun p s => rd53_4 (selL 4 ls53_4 rest) (p.1) (p.2.1) (p.2.2.1) (p.2.2.2.1) (p.2.2.2.2) s) (fun _ _ => rfl)
noncomputable def lsp53 : Lsp := (selL 4 ls53_4 noLsp)
theorem loops53 : ∀ c, Try.f53.body = some c → LoopsOK (cfg Try.prog tab 100000 (gk k21 30) lsp53 53 0 Try.f53.ntmps) c := loops_of [4] (by kernel_rfl) (by kernel_rfl) (fun i hi => by
  simp only [List.mem_cons, List.not_mem_nil, or_false] at hi
  subst hi
  · exact lo53_4 noLsp)
noncomputable def rev53_0 (tk : Tk) (ps : List (List AV)) (tk2 : Tk) (ps2 : List (List AV)) : sl53_4 := finL (g53_4 (tk, ps, tk2, ps2, (↑ps.length : Int))) (n53_4 (tk, ps, tk2, ps2, (↑ps.length : Int))) (0 : Int)
noncomputable def vev53_0 (tk : Tk) (ps : List (List AV)) (tk2 : Tk) (ps2 : List (List AV)) : Bool := bif (↑ps.length : Int) != (↑ps2.length : Int) then false else bif xc53_4_0 tk ps tk2 ps2 (↑ps.length : Int) (rev53_0 tk ps tk2 ps2) then false else true
noncomputable def vev53_1 (tk : Tk) (ps : List (List AV)) (tk2 : Tk) (ps2 : List (List AV)) : Bool := bif (↑ps.length : Int) != (↑ps2.length : Int) then true else bif (spI g53_4 n53_4 y53_4 z53_4 d53_4 ((tk, ps, tk2, ps2, (↑ps.length : Int)), (0 : Int))).fst then true else false
theorem ev53 (tk : Tk) (ps : List (List AV)) (tk2 : Tk) (ps2 : List (List AV)) : evFin (cfg Try.prog tab 100000 (gk k21 30) lsp53 53 ([] : List Blk).length Try.f53.ntmps) ([] : List Blk).length Try.f53.resultTypes.toList Try.f53 [.sl tk [.int .u16, .int .u32] ps, .sl tk2 [.int .u16, .int .u32] ps2] [] = bif vev53_1 tk ps tk2 ps2 then some (true, AV.bool (vev53_0 tk ps tk2 ps2), []) else none := by
  have h : evFin (cfg Try.prog tab 100000 (gk k21 30) lsp53 53 ([] : List Blk).length Try.f53.ntmps) ([] : List Blk).length Try.f53.resultTypes.toList Try.f53 [.sl tk [.int .u16, .int .u32] ps, .sl tk2 [.int .u16, .int .u32] ps2] [] = bif (↑ps.length : Int) != (↑ps2.length : Int) then some (true, AV.bool false, []) else bif (spI g53_4 n53_4 y53_4 z53_4 d53_4 ((tk, ps, tk2, ps2, (↑ps.length : Int)), (0 : Int))).fst then bif xc53_4_0 tk ps tk2 ps2 (↑ps.length : Int) (rev53_0 tk ps tk2 ps2) then some (true, AV.bool false, []) else some (true, AV.bool true, []) else none := by kernel_rfl
  rw [h]
  clear h
  unfold vev53_0 vev53_1
  generalize ((spI g53_4 n53_4 y53_4 z53_4 d53_4 ((tk, ps, tk2, ps2, (↑ps.length : Int)), (0 : Int))).fst) = c0
  generalize ((↑ps.length : Int) != (↑ps2.length : Int)) = c1
  generalize (xc53_4_0 tk ps tk2 ps2 (↑ps.length : Int) (rev53_0 tk ps tk2 ps2)) = c2
  cases c1; cases c0; rfl; cases c2; rfl; rfl; rfl
-- spec vev53_1 tk ps tk2 ps2 ;; (true, AV.bool (vev53_0 tk ps tk2 ps2), [])
noncomputable def sp53 : List AV → List Blk → Option (Bool × AV × List Blk)
  | [.sl tk [.int .u16, .int .u32] ps, .sl tk2 [.int .u16, .int .u32] ps2], [] => spW (vev53_1 tk ps tk2 ps2) (some ((true, AV.bool (vev53_0 tk ps tk2 ps2), [])))
  | _, _ => none
noncomputable def k53 : Gam := fun f T C => match Nat.beq f 53 with
  | true => (sp53 T C).or (k21 f T C)
  | false => k21 f T C
theorem k53_ok : GamOK Try.prog k53 := by
  intro f T C r outs h
  unfold k53 at h
  cases hf : Nat.beq f 53 with
  | false => rw [hf] at h; exact k21_ok f T C r outs h
  | true =>
    have hf' := Nat.eq_of_beq_eq_true hf
    subst hf'
    rw [hf] at h
    dsimp only at h
    cases hs : sp53 T C with
    | none => rw [hs] at h; exact k21_ok _ T C r outs h
    | some x =>
      rw [hs] at h
      have hx : x = (true, r, outs) := by simpa using h
      subst hx
      unfold sp53 at hs
      split at hs
      · rename_i tk ps tk2 ps2
        obtain ⟨hb, rfl, rfl⟩ := spT_inv hs
        have he := ev53 tk ps tk2 ps2
        rw [hb, cond_true] at he
        obtain ⟨r0, o0, h0, he⟩ := evFin_inv he
        obtain ⟨h1, h2⟩ := fn_ok mixed plain (gk_ok k21_ok 30) Try.func53 loops53 h0
        exact ⟨h1, h2.fin he⟩
      · cases hs
noncomputable def vev53n_0 (tk : Tk) (ps : List (List AV)) : Bool := bif (↑ps.length : Int) != (↑(0 : Nat) : Int) then false else true
noncomputable def vev53n_1 (tk : Tk) (ps : List (List AV)) : Bool := bif (↑ps.length : Int) != (↑(0 : Nat) : Int) then true else bif decide ((0 : Int) < (↑ps.length : Int)) then false else true
theorem ev53n (tk : Tk) (ps : List (List AV)) : evFin (cfg Try.prog tab 100000 (gk k53 30) noLsp 53 ([] : List Blk).length Try.f53.ntmps) ([] : List Blk).length Try.f53.resultTypes.toList Try.f53 [.sl tk [.int .u16, .int .u32] ps, .nil] [] = bif vev53n_1 tk ps then some (true, AV.bool (vev53n_0 tk ps), []) else none := by
  have h : evFin (cfg Try.prog tab 100000 (gk k53 30) noLsp 53 ([] : List Blk).length Try.f53.ntmps) ([] : List Blk).length Try.f53.resultTypes.toList Try.f53 [.sl tk [.int .u16, .int .u32] ps, .nil] [] = bif (↑ps.length : Int) != (↑(0 : Nat) : Int) then some (true, AV.bool false, []) else bif decide ((0 : Int) < (↑ps.length : Int)) then bif decide ((0 : Int) ≤ (0 : Int)) && decide ((0 : Int) < (↑ps.length : Int)) then none else none else some (true, AV.bool true, []) := by kernel_rfl
  rw [h]
  clear h
  unfold vev53n_0 vev53n_1
  generalize (decide ((0 : Int) ≤ (0 : Int)) && decide ((0 : Int) < (↑ps.length : Int))) = c0
  generalize (decide ((0 : Int) < (↑ps.length : Int))) = c1
  generalize ((↑ps.length : Int) != (↑(0 : Nat) : Int)) = c2
  cases c2; cases c1; rfl; cases c0; rfl; rfl; rfl
-- spec vev53n_1 tk ps ;; (true, AV.bool (vev53n_0 tk ps), [])
noncomputable def sp53n : List AV → List Blk → Option (Bool × AV × List Blk)
  | [.sl tk [.int .u16, .int .u32] ps, .nil], [] => spW (vev53n_1 tk ps) (some ((true, AV.bool (vev53n_0 tk ps), [])))
  | _, _ => none
noncomputable def k53n : Gam := fun f T C => match Nat.beq f 53 with
  | true => (sp53n T C).or (k53 f T C)
  | false => k53 f T C
theorem k53n_ok : GamOK Try.prog k53n := by
  intro f T C r outs h
  unfold k53n at h
  cases hf : Nat.beq f 53 with
  | false => rw [hf] at h; exact k53_ok f T C r outs h
  | true =>
    have hf' := Nat.eq_of_beq_eq_true hf
    subst hf'
    rw [hf] at h
    dsimp only at h
    cases hs : sp53n T C with
    | none => rw [hs] at h; exact k53_ok _ T C r outs h
    | some x =>
      rw [hs] at h
      have hx : x = (true, r, outs) := by simpa using h
      subst hx
      unfold sp53n at hs
      split at hs
      · rename_i tk ps
        obtain ⟨hb, rfl, rfl⟩ := spT_inv hs
        have he := ev53n tk ps
        rw [hb, cond_true] at he
        obtain ⟨r0, o0, h0, he⟩ := evFin_inv he
        obtain ⟨h1, h2⟩ := fn_ok mixed plain (gk_ok k53_ok 30) Try.func53 (fun c _ => LoopsOK.none (fun _ _ => rfl) c) h0
        exact ⟨h1, h2.fin he⟩
      · cases hs
noncomputable def vev23_0 (t g n : Int) (d : List UInt8) (pa de : Int) (so : Bool) (we co la inc : Int) (ps : List (List AV)) (t' g' n' : Int) (d' : List UInt8) (pa' de' : Int) (so' : Bool) (we' co' la' inc' : Int) (ps' : List (List AV)) : Bool := bif bif vev53_1 Tk.imm ps Tk.imm ps' then bif vev53_0 Tk.imm ps Tk.imm ps' then bif bif true then t == t' else false then bif bif true then g == g' else false then bif bif true then n == n' else false then bif bif true then d == d' else false then bif true then pa == pa' else false else false else false else false else false else false else false then bif bif true then de == de' else false then bif bif true then so == so' else false then bif bif true then we == we' else false then bif bif true then co == co' else false then bif bif true then la == la' else false then bif true then inc == inc' else false else false else false else false else false else false else false
noncomputable def vev23_1 (t g n : Int) (d : List UInt8) (pa de : Int) (so : Bool) (we co la inc : Int) (ps : List (List AV)) (t' g' n' : Int) (d' : List UInt8) (pa' de' : Int) (so' : Bool) (we' co' la' inc' : Int) (ps' : List (List AV)) : Bool := bif vev53_1 Tk.imm ps Tk.imm ps' then true else false
theorem ev23 (t g n : Int) (d : List UInt8) (pa de : Int) (so : Bool) (we co la inc : Int) (ps : List (List AV)) (t' g' n' : Int) (d' : List UInt8) (pa' de' : Int) (so' : Bool) (we' co' la' inc' : Int) (ps' : List (List AV)) : evFin (cfg Try.prog tab 100000 (gk k53n 30) noLsp 23 ([] : List Blk).length Try.f23.ntmps) ([] : List Blk).length Try.f23.resultTypes.toList Try.f23 [.agg [.int .u8 t, .int .u8 g, .int .i64 n, .str d, .int .i64 pa, .int .i64 de, .bool so, .int .u8 we, .int .u32 co, .int .i64 la, .int .i64 inc, .sl .imm [.int .u16, .int .u32] ps], .agg [.int .u8 t', .int .u8 g', .int .i64 n', .str d', .int .i64 pa', .int .i64 de', .bool so', .int .u8 we', .int .u32 co', .int .i64 la', .int .i64 inc', .sl .imm [.int .u16, .int .u32] ps']] [] = bif vev23_1 t g n d pa de so we co la inc ps t' g' n' d' pa' de' so' we' co' la' inc' ps' then some (true, AV.bool (vev23_0 t g n d pa de so we co la inc ps t' g' n' d' pa' de' so' we' co' la' inc' ps'), []) else none := by
  have h : evFin (cfg Try.prog tab 100000 (gk k53n 30) noLsp 23 ([] : List Blk).length Try.f23.ntmps) ([] : List Blk).length Try.f23.resultTypes.toList Try.f23 [.agg [.int .u8 t, .int .u8 g, .int .i64 n, .str d, .int .i64 pa, .int .i64 de, .bool so, .int .u8 we, .int .u32 co, .int .i64 la, .int .i64 inc, .sl .imm [.int .u16, .int .u32] ps], .agg [.int .u8 t', .int .u8 g', .int .i64 n', .str d', .int .i64 pa', .int .i64 de', .bool so', .int .u8 we', .int .u32 co', .int .i64 la', .int .i64 inc', .sl .imm [.int .u16, .int .u32] ps']] [] = bif bif vev53_1 Tk.imm ps Tk.imm ps' then bif vev53_0 Tk.imm ps Tk.imm ps' then bif bif true then t == t' else false then bif bif true then g == g' else false then bif bif true then n == n' else false then bif bif true then d == d' else false then true else true else true else true else true else true else false then bif bif bif vev53_1 Tk.imm ps Tk.imm ps' then bif vev53_0 Tk.imm ps Tk.imm ps' then bif bif true then t == t' else false then bif bif true then g == g' else false then bif bif true then n == n' else false then bif bif true then d == d' else false then bif true then pa == pa' else false else false else false else false else false else false else false then bif bif true then de == de' else false then bif bif true then so == so' else false then bif bif true then we == we' else false then bif bif true then co == co' else false then bif bif true then la == la' else false then true else true else true else true else true else true else true then some (true, AV.bool (bif bif vev53_1 Tk.imm ps Tk.imm ps' then bif vev53_0 Tk.imm ps Tk.imm ps' then bif bif true then t == t' else false then bif bif true then g == g' else false then bif bif true then n == n' else false then bif bif true then d == d' else false then bif true then pa == pa' else false else false else false else false else false else false else false then bif bif true then de == de' else false then bif bif true then so == so' else false then bif bif true then we == we' else false then bif bif true then co == co' else false then bif bif true then la == la' else false then bif true then inc == inc' else false else false else false else false else false else false else false), []) else none else none := by kernel_rfl
  rw [h]
  clear h
  unfold vev23_0 vev23_1
  generalize (d == d') = c0
  generalize (la == la') = c1
  generalize (pa == pa') = c2
  generalize (t == t') = c3
  generalize (g == g') = c4
  generalize (n == n') = c5
  generalize (we == we') = c6
  generalize (so == so') = c7
  generalize (de == de') = c8
  generalize (co == co') = c9
  generalize (vev53_0 Tk.imm ps Tk.imm ps') = c10
  generalize (vev53_1 Tk.imm ps Tk.imm ps') = c11
  cases c11; rfl; cases c10; rfl; cases c3; rfl; cases c4; rfl; cases c5; rfl; cases c0; rfl; cases c2; rfl; cases c8; rfl; cases c7; rfl; cases c6
  rfl; cases c9; rfl; cases c1; rfl; rfl
-- spec vev23_1 t g n d pa de so we co la inc ps t' g' n' d' pa' de' so' we' co' la' inc' ps' ;; (true, AV.bool (vev23_0 t g n d pa de so we co la inc ps t' g' n' d' pa' de' so' we' co' la' inc' ps'), [])
noncomputable def sp23 : List AV → List Blk → Option (Bool × AV × List Blk)
  | [.agg [.int .u8 t, .int .u8 g, .int .i64 n, .str d, .int .i64 pa, .int .i64 de, .bool so, .int .u8 we, .int .u32 co, .int .i64 la, .int .i64 inc, .sl .imm [.int .u16, .int .u32] ps], .agg [.int .u8 t', .int .u8 g', .int .i64 n', .str d', .int .i64 pa', .int .i64 de', .bool so', .int .u8 we', .int .u32 co', .int .i64 la', .int .i64 inc', .sl .imm [.int .u16, .int .u32] ps']], [] => spW (vev23_1 t g n d pa de so we co la inc ps t' g' n' d' pa' de' so' we' co' la' inc' ps') (some ((true, AV.bool (vev23_0 t g n d pa de so we co la inc ps t' g' n' d' pa' de' so' we' co' la' inc' ps'), [])))
  | _, _ => none
noncomputable def k23 : Gam := fun f T C => match Nat.beq f 23 with
  | true => (sp23 T C).or (k53n f T C)
  | false => k53n f T C
theorem k23_ok : GamOK Try.prog k23 := by
  intro f T C r outs h
  unfold k23 at h
  cases hf : Nat.beq f 23 with
  | false => rw [hf] at h; exact k53n_ok f T C r outs h
  | true =>
    have hf' := Nat.eq_of_beq_eq_true hf
    subst hf'
    rw [hf] at h
    dsimp only at h
    cases hs : sp23 T C with
    | none => rw [hs] at h; exact k53n_ok _ T C r outs h
    | some x =>
      rw [hs] at h
      have hx : x = (true, r, outs) := by simpa using h
      subst hx
      unfold sp23 at hs
      split at hs
      · rename_i t g n d pa de so we co la inc ps t' g' n' d' pa' de' so' we' co' la' inc' ps'
        obtain ⟨hb, rfl, rfl⟩ := spT_inv hs
        have he := ev23 t g n d pa de so we co la inc ps t' g' n' d' pa' de' so' we' co' la' inc' ps'
        rw [hb, cond_true] at he
        obtain ⟨r0, o0, h0, he⟩ := evFin_inv he
        obtain ⟨h1, h2⟩ := fn_ok mixed plain (gk_ok k53n_ok 30) Try.func23 (fun c _ => LoopsOK.none (fun _ _ => rfl) c) h0
        exact ⟨h1, h2.fin he⟩
      · cases hs
noncomputable def vev23n_0 (t g n : Int) (d : List UInt8) (pa de : Int) (so : Bool) (we co la inc : Int) (ps : List (List AV)) (t' g' n' : Int) (d' : List UInt8) (pa' de' : Int) (so' : Bool) (we' co' la' inc' : Int) : Bool := bif bif vev53n_1 Tk.imm ps then bif vev53n_0 Tk.imm ps then bif bif true then t == t' else false then bif bif true then g == g' else false then bif bif true then n == n' else false then bif bif true then d == d' else false then bif true then pa == pa' else false else false else false else false else false else false else false then bif bif true then de == de' else false then bif bif true then so == so' else false then bif bif true then we == we' else false then bif bif true then co == co' else false then bif bif true then la == la' else false then bif true then inc == inc' else false else false else false else false else false else false else false
noncomputable def vev23n_1 (t g n : Int) (d : List UInt8) (pa de : Int) (so : Bool) (we co la inc : Int) (ps : List (List AV)) (t' g' n' : Int) (d' : List UInt8) (pa' de' : Int) (so' : Bool) (we' co' la' inc' : Int) : Bool := bif vev53n_1 Tk.imm ps then true else false
theorem ev23n (t g n : Int) (d : List UInt8) (pa de : Int) (so : Bool) (we co la inc : Int) (ps : List (List AV)) (t' g' n' : Int) (d' : List UInt8) (pa' de' : Int) (so' : Bool) (we' co' la' inc' : Int) : evFin (cfg Try.prog tab 100000 (gk k23 30) noLsp 23 ([] : List Blk).length Try.f23.ntmps) ([] : List Blk).length Try.f23.resultTypes.toList Try.f23 [.agg [.int .u8 t, .int .u8 g, .int .i64 n, .str d, .int .i64 pa, .int .i64 de, .bool so, .int .u8 we, .int .u32 co, .int .i64 la, .int .i64 inc, .sl .imm [.int .u16, .int .u32] ps], .agg [.int .u8 t', .int .u8 g', .int .i64 n', .str d', .int .i64 pa', .int .i64 de', .bool so', .int .u8 we', .int .u32 co', .int .i64 la', .int .i64 inc', .nil]] [] = bif vev23n_1 t g n d pa de so we co la inc ps t' g' n' d' pa' de' so' we' co' la' inc' then some (true, AV.bool (vev23n_0 t g n d pa de so we co la inc ps t' g' n' d' pa' de' so' we' co' la' inc'), []) else none := by
  have h : evFin (cfg Try.prog tab 100000 (gk k23 30) noLsp 23 ([] : List Blk).length Try.f23.ntmps) ([] : List Blk).length Try.f23.resultTypes.toList Try.f23 [.agg [.int .u8 t, .int .u8 g, .int .i64 n, .str d, .int .i64 pa, .int .i64 de, .bool so, .int .u8 we, .int .u32 co, .int .i64 la, .int .i64 inc, .sl .imm [.int .u16, .int .u32] ps], .agg [.int .u8 t', .int .u8 g', .int .i64 n', .str d', .int .i64 pa', .int .i64 de', .bool so', .int .u8 we', .int .u32 co', .int .i64 la', .int .i64 inc', .nil]] [] = bif bif vev53n_1 Tk.imm ps then bif vev53n_0 Tk.imm ps then bif bif true then t == t' else false then bif bif true then g == g' else false then bif bif true then n == n' else false then bif bif true then d == d' else false then true else true else true else true else true else true else false then bif bif bif vev53n_1 Tk.imm ps then bif vev53n_0 Tk.imm ps then bif bif true then t == t' else false then bif bif true then g == g' else false then bif bif true then n == n' else false then bif bif true then d == d' else false then bif true then pa == pa' else false else false else false else false else false else false else false then bif bif true then de == de' else false then bif bif true then so == so' else false then bif bif true then we == we' else false then bif bif true then co == co' else false then bif bif true then la == la' else false then true else true else true else true else true else true else true then some (true, AV.bool (bif bif vev53n_1 Tk.imm ps then bif vev53n_0 Tk.imm ps then bif bif true then t == t' else false then bif bif true then g == g' else false then bif bif true then n == n' else false then bif bif true then d == d' else false then bif true then pa == pa' else false else false else false else false else false else false else false then bif bif true then de == de' else false then bif bif true then so == so' else false then bif bif true then we == we' else false then bif bif true then co == co' else false then bif bif true then la == la' else false then bif true then inc == inc' else false else false else false else false else false else false else false), []) else none else none := by kernel_rfl
  rw [h]
  clear h
  unfold vev23n_0 vev23n_1
  generalize (d == d') = c0
  generalize (la == la') = c1
  generalize (pa == pa') = c2
  generalize (t == t') = c3
  generalize (g == g') = c4
  generalize (n == n') = c5
  generalize (we == we') = c6
  generalize (so == so') = c7
  generalize (de == de') = c8
  generalize (co == co') = c9
  generalize (vev53n_0 Tk.imm ps) = c10
  generalize (vev53n_1 Tk.imm ps) = c11
  cases c11; rfl; cases c10; rfl; cases c3; rfl; cases c4; rfl; cases c5; rfl; cases c0; rfl; cases c2; rfl; cases c8; rfl; cases c7; rfl; cases c6
  rfl; cases c9; rfl; cases c1; rfl; rfl
-- spec vev23n_1 t g n d pa de so we co la inc ps t' g' n' d' pa' de' so' we' co' la' inc' ;; (true, AV.bool (vev23n_0 t g n d pa de so we co la inc ps t' g' n' d' pa' de' so' we' co' la' inc'), [])
noncomputable def sp23n : List AV → List Blk → Option (Bool × AV × List Blk)
  | [.agg [.int .u8 t, .int .u8 g, .int .i64 n, .str d, .int .i64 pa, .int .i64 de, .bool so, .int .u8 we, .int .u32 co, .int .i64 la, .int .i64 inc, .sl .imm [.int .u16, .int .u32] ps], .agg [.int .u8 t', .int .u8 g', .int .i64 n', .str d', .int .i64 pa', .int .i64 de', .bool so', .int .u8 we', .int .u32 co', .int .i64 la', .int .i64 inc', .nil]], [] => spW (vev23n_1 t g n d pa de so we co la inc ps t' g' n' d' pa' de' so' we' co' la' inc') (some ((true, AV.bool (vev23n_0 t g n d pa de so we co la inc ps t' g' n' d' pa' de' so' we' co' la' inc'), [])))
  | _, _ => none
noncomputable def k23n : Gam := fun f T C => match Nat.beq f 23 with
  | true => (sp23n T C).or (k23 f T C)
  | false => k23 f T C
theorem k23n_ok : GamOK Try.prog k23n := by
  intro f T C r outs h
  unfold k23n at h
  cases hf : Nat.beq f 23 with
  | false => rw [hf] at h; exact k23_ok f T C r outs h
  | true =>
    have hf' := Nat.eq_of_beq_eq_true hf
    subst hf'
    rw [hf] at h
    dsimp only at h
    cases hs : sp23n T C with
    | none => rw [hs] at h; exact k23_ok _ T C r outs h
    | some x =>
      rw [hs] at h
      have hx : x = (true, r, outs) := by simpa using h
      subst hx
      unfold sp23n at hs
      split at hs
      · rename_i t g n d pa de so we co la inc ps t' g' n' d' pa' de' so' we' co' la' inc'
        obtain ⟨hb, rfl, rfl⟩ := spT_inv hs
        have he := ev23n t g n d pa de so we co la inc ps t' g' n' d' pa' de' so' we' co' la' inc'
        rw [hb, cond_true] at he
        obtain ⟨r0, o0, h0, he⟩ := evFin_inv he
        obtain ⟨h1, h2⟩ := fn_ok mixed plain (gk_ok k23_ok 30) Try.func23 (fun c _ => LoopsOK.none (fun _ _ => rfl) c) h0
        exact ⟨h1, h2.fin he⟩
      · cases hs
noncomputable def vev16_0 (t g n : Int) (d : List UInt8) (pa de : Int) (so : Bool) (we co la inc : Int) (ps : List (List AV)) : Bool := bif decide ((↑d.length : Int) ≤ (400 : Int)) then bif true then decide ((↑ps.length : Int) ≤ (40 : Int)) else false else false
theorem ev16 (t g n : Int) (d : List UInt8) (pa de : Int) (so : Bool) (we co la inc : Int) (ps : List (List AV)) : evFin (cfg Try.prog tab 100000 (gk k23n 30) noLsp 16 ([] : List Blk).length Try.f16.ntmps) ([] : List Blk).length Try.f16.resultTypes.toList Try.f16 [.agg [.int .u8 t, .int .u8 g, .int .i64 n, .str d, .int .i64 pa, .int .i64 de, .bool so, .int .u8 we, .int .u32 co, .int .i64 la, .int .i64 inc, .sl .imm [.int .u16, .int .u32] ps]] [] = bif true then some (true, AV.bool (vev16_0 t g n d pa de so we co la inc ps), []) else none := by
  have h : evFin (cfg Try.prog tab 100000 (gk k23n 30) noLsp 16 ([] : List Blk).length Try.f16.ntmps) ([] : List Blk).length Try.f16.resultTypes.toList Try.f16 [.agg [.int .u8 t, .int .u8 g, .int .i64 n, .str d, .int .i64 pa, .int .i64 de, .bool so, .int .u8 we, .int .u32 co, .int .i64 la, .int .i64 inc, .sl .imm [.int .u16, .int .u32] ps]] [] = bif bif decide ((↑d.length : Int) ≤ (400 : Int)) then true else true then some (true, AV.bool (bif decide ((↑d.length : Int) ≤ (400 : Int)) then bif true then decide ((↑ps.length : Int) ≤ (40 : Int)) else false else false), []) else none := by kernel_rfl
  rw [h]
  clear h
  unfold vev16_0
  generalize (decide ((↑d.length : Int) ≤ (400 : Int))) = c0
  cases c0
  · skip
    rfl
  · skip
    rfl
-- spec true ;; (true, AV.bool (vev16_0 t g n d pa de so we co la inc ps), [])
noncomputable def sp16 : List AV → List Blk → Option (Bool × AV × List Blk)
  | [.agg [.int .u8 t, .int .u8 g, .int .i64 n, .str d, .int .i64 pa, .int .i64 de, .bool so, .int .u8 we, .int .u32 co, .int .i64 la, .int .i64 inc, .sl .imm [.int .u16, .int .u32] ps]], [] => spW (true) (some ((true, AV.bool (vev16_0 t g n d pa de so we co la inc ps), [])))
  | _, _ => none
noncomputable def k16 : Gam := fun f T C => match Nat.beq f 16 with
  | true => (sp16 T C).or (k23n f T C)
  | false => k23n f T C
theorem k16_ok : GamOK Try.prog k16 := by
  intro f T C r outs h
  unfold k16 at h
  cases hf : Nat.beq f 16 with
  | false => rw [hf] at h; exact k23n_ok f T C r outs h
  | true =>
    have hf' := Nat.eq_of_beq_eq_true hf
    subst hf'
    rw [hf] at h
    dsimp only at h
    cases hs : sp16 T C with
    | none => rw [hs] at h; exact k23n_ok _ T C r outs h
    | some x =>
      rw [hs] at h
      have hx : x = (true, r, outs) := by simpa using h
      subst hx
      unfold sp16 at hs
      split at hs
      · rename_i t g n d pa de so we co la inc ps
        obtain ⟨hb, rfl, rfl⟩ := spT_inv hs
        have he := ev16 t g n d pa de so we co la inc ps
        obtain ⟨r0, o0, h0, he⟩ := evFin_inv he
        obtain ⟨h1, h2⟩ := fn_ok mixed plain (gk_ok k23n_ok 30) Try.func16 (fun c _ => LoopsOK.none (fun _ _ => rfl) c) h0
        exact ⟨h1, h2.fin he⟩
      · cases hs
end Go.Proofs.Gv
