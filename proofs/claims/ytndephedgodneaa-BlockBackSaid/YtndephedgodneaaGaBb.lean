import Derived.Test.YtndephedgodneaaGt
import Derived.KernelRfl
import Derived.Test.YtndephedgodneaaGwF
import Derived.Test.YtndephedgodneaaGdPar
namespace Go.Proofs.Gv
open Go.Proofs
set_option linter.unusedVariables false
noncomputable def vev49_0 (n : Int) : Bool := bif decide (n ≥ (0 : Int)) then bif true then decide (n ≤ (2147483647 : Int)) else false else false
theorem ev49 (n : Int) : evFin (cfg Try.prog tab 100000 (gk k14 30) noLsp 49 ([] : List Blk).length Try.f49.ntmps) ([] : List Blk).length Try.f49.resultTypes.toList Try.f49 [.int .i64 n] [] = bif true then some (true, AV.bool (vev49_0 n), []) else none := by
  have h : evFin (cfg Try.prog tab 100000 (gk k14 30) noLsp 49 ([] : List Blk).length Try.f49.ntmps) ([] : List Blk).length Try.f49.resultTypes.toList Try.f49 [.int .i64 n] [] = bif bif decide (n ≥ (0 : Int)) then true else true then some (true, AV.bool (bif decide (n ≥ (0 : Int)) then bif true then decide (n ≤ (2147483647 : Int)) else false else false), []) else none := by kernel_rfl
  rw [h]
  clear h
  unfold vev49_0
  generalize (decide (n ≥ (0 : Int))) = c0
  cases c0
  · skip
    rfl
  · skip
    rfl
-- spec true ;; (true, AV.bool (vev49_0 n), [])
noncomputable def sp49 : List AV → List Blk → Option (Bool × AV × List Blk)
  | [.int .i64 n], [] => spW (true) (some ((true, AV.bool (vev49_0 n), [])))
  | _, _ => none
noncomputable def k49 : Gam := fun f T C => match Nat.beq f 49 with
  | true => (sp49 T C).or (k14 f T C)
  | false => k14 f T C
theorem k49_ok : GamOK Try.prog k49 := by
  intro f T C r outs h
  unfold k49 at h
  cases hf : Nat.beq f 49 with
  | false => rw [hf] at h; exact k14_ok f T C r outs h
  | true =>
    have hf' := Nat.eq_of_beq_eq_true hf
    subst hf'
    rw [hf] at h
    dsimp only at h
    cases hs : sp49 T C with
    | none => rw [hs] at h; exact k14_ok _ T C r outs h
    | some x =>
      rw [hs] at h
      have hx : x = (true, r, outs) := by simpa using h
      subst hx
      unfold sp49 at hs
      split at hs
      · rename_i n
        obtain ⟨hb, rfl, rfl⟩ := spT_inv hs
        have he := ev49 n
        obtain ⟨r0, o0, h0, he⟩ := evFin_inv he
        obtain ⟨h1, h2⟩ := fn_ok mixed plain (gk_ok k14_ok 30) Try.func49 (fun c _ => LoopsOK.none (fun _ _ => rfl) c) h0
        exact ⟨h1, h2.fin he⟩
      · cases hs
noncomputable def vev56_0 (t : Int) (g : Int) (n : Int) (d : List UInt8) (pa : Int) (de : Int) (so : Bool) (we : Int) (co : Int) (la : Int) (inc : Int) (ps : List (List AV)) (fl : Int) : Bool := bits BinOp.and IntKind.u8 g fl != (0 : Int)
theorem ev56 (t : Int) (g : Int) (n : Int) (d : List UInt8) (pa : Int) (de : Int) (so : Bool) (we : Int) (co : Int) (la : Int) (inc : Int) (ps : List (List AV)) (fl : Int) : evFin (cfg Try.prog tab 100000 (gk k49 30) noLsp 56 ([] : List Blk).length Try.f56.ntmps) ([] : List Blk).length Try.f56.resultTypes.toList Try.f56 [.agg [.int .u8 t, .int .u8 g, .int .i64 n, .str d, .int .i64 pa, .int .i64 de, .bool so, .int .u8 we, .int .u32 co, .int .i64 la, .int .i64 inc, .sl .imm [.int .u16, .int .u32] ps], .int .u8 fl] [] = some (true, AV.bool (vev56_0 t g n d pa de so we co la inc ps fl), []) := by kernel_rfl
-- spec true ;; (true, AV.bool (vev56_0 t g n d pa de so we co la inc ps fl), [])
noncomputable def sp56 : List AV → List Blk → Option (Bool × AV × List Blk)
  | [.agg [.int .u8 t, .int .u8 g, .int .i64 n, .str d, .int .i64 pa, .int .i64 de, .bool so, .int .u8 we, .int .u32 co, .int .i64 la, .int .i64 inc, .sl .imm [.int .u16, .int .u32] ps], .int .u8 fl], [] => spW (true) (some ((true, AV.bool (vev56_0 t g n d pa de so we co la inc ps fl), [])))
  | _, _ => none
noncomputable def k56 : Gam := fun f T C => match Nat.beq f 56 with
  | true => (sp56 T C).or (k49 f T C)
  | false => k49 f T C
theorem k56_ok : GamOK Try.prog k56 := by
  intro f T C r outs h
  unfold k56 at h
  cases hf : Nat.beq f 56 with
  | false => rw [hf] at h; exact k49_ok f T C r outs h
  | true =>
    have hf' := Nat.eq_of_beq_eq_true hf
    subst hf'
    rw [hf] at h
    dsimp only at h
    cases hs : sp56 T C with
    | none => rw [hs] at h; exact k49_ok _ T C r outs h
    | some x =>
      rw [hs] at h
      have hx : x = (true, r, outs) := by simpa using h
      subst hx
      unfold sp56 at hs
      split at hs
      · rename_i t g n d pa de so we co la inc ps fl
        obtain ⟨hb, rfl, rfl⟩ := spT_inv hs
        have he := ev56 t g n d pa de so we co la inc ps fl
        obtain ⟨r0, o0, h0, he⟩ := evFin_inv he
        obtain ⟨h1, h2⟩ := fn_ok mixed plain (gk_ok k49_ok 30) Try.func56 (fun c _ => LoopsOK.none (fun _ _ => rfl) c) h0
        exact ⟨h1, h2.fin he⟩
      · cases hs
noncomputable def vev64_0 (t : Int) (g : Int) (n : Int) (d : List UInt8) (pa : Int) (de : Int) (so : Bool) (we : Int) (co : Int) (la : Int) (inc : Int) (ps : List (List AV)) : Bool := bif t == (0 : Int) then bif true then vev56_0 t g n d pa de so we co la inc ps (8 : Int) else false else bif bif false then true else t == (1 : Int) then bif true then vev56_0 t g n d pa de so we co la inc ps (8 : Int) else false else false
theorem ev64 (t : Int) (g : Int) (n : Int) (d : List UInt8) (pa : Int) (de : Int) (so : Bool) (we : Int) (co : Int) (la : Int) (inc : Int) (ps : List (List AV)) : evFin (cfg Try.prog tab 100000 (gk k56 30) noLsp 64 ([] : List Blk).length Try.f64.ntmps) ([] : List Blk).length Try.f64.resultTypes.toList Try.f64 [.agg [.int .u8 t, .int .u8 g, .int .i64 n, .str d, .int .i64 pa, .int .i64 de, .bool so, .int .u8 we, .int .u32 co, .int .i64 la, .int .i64 inc, .sl .imm [.int .u16, .int .u32] ps]] [] = bif true then some (true, AV.bool (vev64_0 t g n d pa de so we co la inc ps), []) else none := by
  have h : evFin (cfg Try.prog tab 100000 (gk k56 30) noLsp 64 ([] : List Blk).length Try.f64.ntmps) ([] : List Blk).length Try.f64.resultTypes.toList Try.f64 [.agg [.int .u8 t, .int .u8 g, .int .i64 n, .str d, .int .i64 pa, .int .i64 de, .bool so, .int .u8 we, .int .u32 co, .int .i64 la, .int .i64 inc, .sl .imm [.int .u16, .int .u32] ps]] [] = bif bif t == (0 : Int) then true else bif bif false then true else t == (1 : Int) then true else true then some (true, AV.bool (bif t == (0 : Int) then bif true then vev56_0 t g n d pa de so we co la inc ps (8 : Int) else false else bif bif false then true else t == (1 : Int) then bif true then vev56_0 t g n d pa de so we co la inc ps (8 : Int) else false else false), []) else none := by kernel_rfl
  rw [h]
  clear h
  unfold vev64_0
  generalize (t == (1 : Int)) = c0
  generalize (t == (0 : Int)) = c1
  cases c1
  · skip
    cases c0
    · skip
      rfl
    · skip
      rfl
  · skip
    rfl
-- spec true ;; (true, AV.bool (vev64_0 t g n d pa de so we co la inc ps), [])
noncomputable def sp64 : List AV → List Blk → Option (Bool × AV × List Blk)
  | [.agg [.int .u8 t, .int .u8 g, .int .i64 n, .str d, .int .i64 pa, .int .i64 de, .bool so, .int .u8 we, .int .u32 co, .int .i64 la, .int .i64 inc, .sl .imm [.int .u16, .int .u32] ps]], [] => spW (true) (some ((true, AV.bool (vev64_0 t g n d pa de so we co la inc ps), [])))
  | _, _ => none
noncomputable def k64 : Gam := fun f T C => match Nat.beq f 64 with
  | true => (sp64 T C).or (k56 f T C)
  | false => k56 f T C
theorem k64_ok : GamOK Try.prog k64 := by
  intro f T C r outs h
  unfold k64 at h
  cases hf : Nat.beq f 64 with
  | false => rw [hf] at h; exact k56_ok f T C r outs h
  | true =>
    have hf' := Nat.eq_of_beq_eq_true hf
    subst hf'
    rw [hf] at h
    dsimp only at h
    cases hs : sp64 T C with
    | none => rw [hs] at h; exact k56_ok _ T C r outs h
    | some x =>
      rw [hs] at h
      have hx : x = (true, r, outs) := by simpa using h
      subst hx
      unfold sp64 at hs
      split at hs
      · rename_i t g n d pa de so we co la inc ps
        obtain ⟨hb, rfl, rfl⟩ := spT_inv hs
        have he := ev64 t g n d pa de so we co la inc ps
        obtain ⟨r0, o0, h0, he⟩ := evFin_inv he
        obtain ⟨h1, h2⟩ := fn_ok mixed plain (gk_ok k56_ok 30) Try.func64 (fun c _ => LoopsOK.none (fun _ _ => rfl) c) h0
        exact ⟨h1, h2.fin he⟩
      · cases hs
noncomputable def vev65_0 (t : Int) (g : Int) (n : Int) (d : List UInt8) (pa : Int) (de : Int) (so : Bool) (we : Int) (co : Int) (la : Int) (inc : Int) (ps : List (List AV)) : Bool := bif t == (2 : Int) then true else bif t == (1 : Int) then bif false then true else bif true then vev56_0 t g n d pa de so we co la inc ps (32 : Int) else false else bif false then true else false
theorem ev65 (t : Int) (g : Int) (n : Int) (d : List UInt8) (pa : Int) (de : Int) (so : Bool) (we : Int) (co : Int) (la : Int) (inc : Int) (ps : List (List AV)) : evFin (cfg Try.prog tab 100000 (gk k64 30) noLsp 65 ([] : List Blk).length Try.f65.ntmps) ([] : List Blk).length Try.f65.resultTypes.toList Try.f65 [.agg [.int .u8 t, .int .u8 g, .int .i64 n, .str d, .int .i64 pa, .int .i64 de, .bool so, .int .u8 we, .int .u32 co, .int .i64 la, .int .i64 inc, .sl .imm [.int .u16, .int .u32] ps]] [] = bif true then some (true, AV.bool (vev65_0 t g n d pa de so we co la inc ps), []) else none := by
  have h : evFin (cfg Try.prog tab 100000 (gk k64 30) noLsp 65 ([] : List Blk).length Try.f65.ntmps) ([] : List Blk).length Try.f65.resultTypes.toList Try.f65 [.agg [.int .u8 t, .int .u8 g, .int .i64 n, .str d, .int .i64 pa, .int .i64 de, .bool so, .int .u8 we, .int .u32 co, .int .i64 la, .int .i64 inc, .sl .imm [.int .u16, .int .u32] ps]] [] = bif bif t == (2 : Int) then true else bif t == (1 : Int) then true else true then some (true, AV.bool (bif t == (2 : Int) then true else bif t == (1 : Int) then bif false then true else bif true then vev56_0 t g n d pa de so we co la inc ps (32 : Int) else false else bif false then true else false), []) else none := by kernel_rfl
  rw [h]
  clear h
  unfold vev65_0
  generalize (t == (1 : Int)) = c0
  generalize (t == (2 : Int)) = c1
  cases c1
  · skip
    cases c0
    · skip
      rfl
    · skip
      rfl
  · skip
    rfl
-- spec true ;; (true, AV.bool (vev65_0 t g n d pa de so we co la inc ps), [])
noncomputable def sp65 : List AV → List Blk → Option (Bool × AV × List Blk)
  | [.agg [.int .u8 t, .int .u8 g, .int .i64 n, .str d, .int .i64 pa, .int .i64 de, .bool so, .int .u8 we, .int .u32 co, .int .i64 la, .int .i64 inc, .sl .imm [.int .u16, .int .u32] ps]], [] => spW (true) (some ((true, AV.bool (vev65_0 t g n d pa de so we co la inc ps), [])))
  | _, _ => none
noncomputable def k65 : Gam := fun f T C => match Nat.beq f 65 with
  | true => (sp65 T C).or (k64 f T C)
  | false => k64 f T C
theorem k65_ok : GamOK Try.prog k65 := by
  intro f T C r outs h
  unfold k65 at h
  cases hf : Nat.beq f 65 with
  | false => rw [hf] at h; exact k64_ok f T C r outs h
  | true =>
    have hf' := Nat.eq_of_beq_eq_true hf
    subst hf'
    rw [hf] at h
    dsimp only at h
    cases hs : sp65 T C with
    | none => rw [hs] at h; exact k64_ok _ T C r outs h
    | some x =>
      rw [hs] at h
      have hx : x = (true, r, outs) := by simpa using h
      subst hx
      unfold sp65 at hs
      split at hs
      · rename_i t g n d pa de so we co la inc ps
        obtain ⟨hb, rfl, rfl⟩ := spT_inv hs
        have he := ev65 t g n d pa de so we co la inc ps
        obtain ⟨r0, o0, h0, he⟩ := evFin_inv he
        obtain ⟨h1, h2⟩ := fn_ok mixed plain (gk_ok k64_ok 30) Try.func65 (fun c _ => LoopsOK.none (fun _ _ => rfl) c) h0
        exact ⟨h1, h2.fin he⟩
      · cases hs
noncomputable def vev50_0 (t : Int) (g : Int) (n : Int) (d : List UInt8) (pa : Int) (de : Int) (so : Bool) (we : Int) (co : Int) (la : Int) (inc : Int) (ps : List (List AV)) : Bool := bif bif pa != (0 : Int) then !vev64_0 t g n d pa de so we co la inc ps else false then true else bif bif !vev65_0 t g n d pa de so we co la inc ps then bif de != (0 : Int) then true else bif so then true else we != (0 : Int) else false then true else bif bif co != (0 : Int) then bif t != (3 : Int) then t != (7 : Int) else false else false then true else bif bif la != (0 : Int) then t != (7 : Int) else false then true else bif bif inc != (0 : Int) then t != (8 : Int) else false then true else bif bif decide ((↑ps.length : Int) > (0 : Int)) then bif t != (4 : Int) then true else vev56_0 t g n d pa de so we co la inc ps (1 : Int) else false then true else bif t == (2 : Int) then !d == (ByteArray.mk #[]).data.toList else bif t == (3 : Int) then !d == (ByteArray.mk #[]).data.toList else bif t == (4 : Int) then !d == (ByteArray.mk #[]).data.toList else bif t == (8 : Int) then !d == (ByteArray.mk #[]).data.toList else bif t == (6 : Int) then (↑d.length : Int) != (8 : Int) else false
theorem ev50 (t : Int) (g : Int) (n : Int) (d : List UInt8) (pa : Int) (de : Int) (so : Bool) (we : Int) (co : Int) (la : Int) (inc : Int) (ps : List (List AV)) : evFin (cfg Try.prog tab 100000 (gk k65 30) noLsp 50 ([] : List Blk).length Try.f50.ntmps) ([] : List Blk).length Try.f50.resultTypes.toList Try.f50 [.agg [.int .u8 t, .int .u8 g, .int .i64 n, .str d, .int .i64 pa, .int .i64 de, .bool so, .int .u8 we, .int .u32 co, .int .i64 la, .int .i64 inc, .sl .imm [.int .u16, .int .u32] ps]] [] = bif true then some (true, AV.bool (vev50_0 t g n d pa de so we co la inc ps), []) else none := by
  have h : evFin (cfg Try.prog tab 100000 (gk k65 30) noLsp 50 ([] : List Blk).length Try.f50.ntmps) ([] : List Blk).length Try.f50.resultTypes.toList Try.f50 [.agg [.int .u8 t, .int .u8 g, .int .i64 n, .str d, .int .i64 pa, .int .i64 de, .bool so, .int .u8 we, .int .u32 co, .int .i64 la, .int .i64 inc, .sl .imm [.int .u16, .int .u32] ps]] [] = bif bif pa != (0 : Int) then true else true then bif bif pa != (0 : Int) then bif true then !vev64_0 t g n d pa de so we co la inc ps else false else false then bif bif pa != (0 : Int) then bif true then !vev64_0 t g n d pa de so we co la inc ps else false else false then some (true, AV.bool true, []) else bif bif co != (0 : Int) then bif bif true then t != (3 : Int) else false then true else true else true then bif bif co != (0 : Int) then bif bif true then t != (3 : Int) else false then bif true then t != (7 : Int) else false else false else false then some (true, AV.bool true, []) else bif bif la != (0 : Int) then true else true then bif bif la != (0 : Int) then bif true then t != (7 : Int) else false else false then bif bif la != (0 : Int) then bif true then t != (7 : Int) else false else false then some (true, AV.bool true, []) else bif bif decide ((↑ps.length : Int) > (0 : Int)) then bif t != (4 : Int) then true else true else true then bif bif decide ((↑ps.length : Int) > (0 : Int)) then bif t != (4 : Int) then bif true then true else false else bif true then bif false then true else vev56_0 t g n d pa de so we co la inc ps (1 : Int) else false else false then some (true, AV.bool true, []) else bif t == (2 : Int) then bif t == (2 : Int) then some (true, AV.bool !d == (ByteArray.mk #[]).data.toList, []) else bif t == (6 : Int) then some (true, AV.bool ((↑d.length : Int) != (8 : Int)), []) else some (true, AV.bool false, []) else bif t == (3 : Int) then bif t == (3 : Int) then some (true, AV.bool !d == (ByteArray.mk #[]).data.toList, []) else bif t == (6 : Int) then some (true, AV.bool ((↑d.length : Int) != (8 : Int)), []) else some (true, AV.bool false, []) else bif t == (4 : Int) then bif t == (4 : Int) then some (true, AV.bool !d == (ByteArray.mk #[]).data.toList, []) else bif t == (6 : Int) then some (true, AV.bool ((↑d.length : Int) != (8 : Int)), []) else some (true, AV.bool false, []) else bif t == (8 : Int) then some (true, AV.bool !d == (ByteArray.mk #[]).data.toList, []) else bif t == (6 : Int) then some (true, AV.bool ((↑d.length : Int) != (8 : Int)), []) else some (true, AV.bool false, []) else none else bif bif inc != (0 : Int) then true else true then bif bif inc != (0 : Int) then bif true then t != (8 : Int) else false else false then some (true, AV.bool true, []) else bif bif decide ((↑ps.length : Int) > (0 : Int)) then bif t != (4 : Int) then true else true else true then bif bif decide ((↑ps.length : Int) > (0 : Int)) then bif t != (4 : Int) then bif true then true else false else bif true then bif false then true else vev56_0 t g n d pa de so we co la inc ps (1 : Int) else false else false then some (true, AV.bool true, []) else bif t == (2 : Int) then bif t == (2 : Int) then some (true, AV.bool !d == (ByteArray.mk #[]).data.toList, []) else bif t == (6 : Int) then some (true, AV.bool ((↑d.length : Int) != (8 : Int)), []) else some (true, AV.bool false, []) else bif t == (3 : Int) then bif t == (3 : Int) then some (true, AV.bool !d == (ByteArray.mk #[]).data.toList, []) else bif t == (6 : Int) then some (true, AV.bool ((↑d.length : Int) != (8 : Int)), []) else some (true, AV.bool false, []) else bif t == (4 : Int) then bif t == (4 : Int) then some (true, AV.bool !d == (ByteArray.mk #[]).data.toList, []) else bif t == (6 : Int) then some (true, AV.bool ((↑d.length : Int) != (8 : Int)), []) else some (true, AV.bool false, []) else bif t == (8 : Int) then some (true, AV.bool !d == (ByteArray.mk #[]).data.toList, []) else bif t == (6 : Int) then some (true, AV.bool ((↑d.length : Int) != (8 : Int)), []) else some (true, AV.bool false, []) else none else none else none else none else bif bif !vev65_0 t g n d pa de so we co la inc ps then bif de != (0 : Int) then true else bif bif false then true else so then true else true else true then bif bif !vev65_0 t g n d pa de so we co la inc ps then bif de != (0 : Int) then bif true then true else false else bif bif false then true else so then bif true then true else false else bif true then bif false then true else we != (0 : Int) else false else false then some (true, AV.bool true, []) else bif bif co != (0 : Int) then bif bif true then t != (3 : Int) else false then true else true else true then bif bif co != (0 : Int) then bif bif true then t != (3 : Int) else false then bif true then t != (7 : Int) else false else false else false then some (true, AV.bool true, []) else bif bif la != (0 : Int) then true else true then bif bif la != (0 : Int) then bif true then t != (7 : Int) else false else false then bif bif la != (0 : Int) then bif true then t != (7 : Int) else false else false then some (true, AV.bool true, []) else bif bif decide ((↑ps.length : Int) > (0 : Int)) then bif t != (4 : Int) then true else true else true then bif bif decide ((↑ps.length : Int) > (0 : Int)) then bif t != (4 : Int) then bif true then true else false else bif true then bif false then true else vev56_0 t g n d pa de so we co la inc ps (1 : Int) else false else false then some (true, AV.bool true, []) else bif t == (2 : Int) then bif t == (2 : Int) then some (true, AV.bool !d == (ByteArray.mk #[]).data.toList, []) else bif t == (6 : Int) then some (true, AV.bool ((↑d.length : Int) != (8 : Int)), []) else some (true, AV.bool false, []) else bif t == (3 : Int) then bif t == (3 : Int) then some (true, AV.bool !d == (ByteArray.mk #[]).data.toList, []) else bif t == (6 : Int) then some (true, AV.bool ((↑d.length : Int) != (8 : Int)), []) else some (true, AV.bool false, []) else bif t == (4 : Int) then bif t == (4 : Int) then some (true, AV.bool !d == (ByteArray.mk #[]).data.toList, []) else bif t == (6 : Int) then some (true, AV.bool ((↑d.length : Int) != (8 : Int)), []) else some (true, AV.bool false, []) else bif t == (8 : Int) then some (true, AV.bool !d == (ByteArray.mk #[]).data.toList, []) else bif t == (6 : Int) then some (true, AV.bool ((↑d.length : Int) != (8 : Int)), []) else some (true, AV.bool false, []) else none else bif bif inc != (0 : Int) then true else true then bif bif inc != (0 : Int) then bif true then t != (8 : Int) else false else false then some (true, AV.bool true, []) else bif bif decide ((↑ps.length : Int) > (0 : Int)) then bif t != (4 : Int) then true else true else true then bif bif decide ((↑ps.length : Int) > (0 : Int)) then bif t != (4 : Int) then bif true then true else false else bif true then bif false then true else vev56_0 t g n d pa de so we co la inc ps (1 : Int) else false else false then some (true, AV.bool true, []) else bif t == (2 : Int) then bif t == (2 : Int) then some (true, AV.bool !d == (ByteArray.mk #[]).data.toList, []) else bif t == (6 : Int) then some (true, AV.bool ((↑d.length : Int) != (8 : Int)), []) else some (true, AV.bool false, []) else bif t == (3 : Int) then bif t == (3 : Int) then some (true, AV.bool !d == (ByteArray.mk #[]).data.toList, []) else bif t == (6 : Int) then some (true, AV.bool ((↑d.length : Int) != (8 : Int)), []) else some (true, AV.bool false, []) else bif t == (4 : Int) then bif t == (4 : Int) then some (true, AV.bool !d == (ByteArray.mk #[]).data.toList, []) else bif t == (6 : Int) then some (true, AV.bool ((↑d.length : Int) != (8 : Int)), []) else some (true, AV.bool false, []) else bif t == (8 : Int) then some (true, AV.bool !d == (ByteArray.mk #[]).data.toList, []) else bif t == (6 : Int) then some (true, AV.bool ((↑d.length : Int) != (8 : Int)), []) else some (true, AV.bool false, []) else none else none else none else none else none else none := by kernel_rfl
  rw [h]
  clear h
  unfold vev50_0
  generalize (decide ((↑ps.length : Int) > (0 : Int))) = c0
  generalize (vev56_0 t g n d pa de so we co la inc ps (1 : Int)) = c1
  generalize (!vev64_0 t g n d pa de so we co la inc ps) = c2
  generalize (!vev65_0 t g n d pa de so we co la inc ps) = c3
  generalize (t == (6 : Int)) = c4
  generalize (pa != (0 : Int)) = c5
  generalize (we != (0 : Int)) = c6
  generalize (co != (0 : Int)) = c7
  generalize (t != (3 : Int)) = c8
  generalize (t != (7 : Int)) = c9
  generalize (la != (0 : Int)) = c10
  generalize (inc != (0 : Int)) = c11
  generalize (t != (8 : Int)) = c12
  generalize (t == (2 : Int)) = c13
  generalize (t != (4 : Int)) = c14
  generalize (de != (0 : Int)) = c15
  generalize (t == (4 : Int)) = c16
  generalize (t == (3 : Int)) = c17
  generalize (t == (8 : Int)) = c18
  generalize (so) = c19
  cases c5
  · skip
    cases c3
    · skip
      cases c7
      · skip
        cases c10
        · skip
          cases c11
          · skip
            cases c0
            · skip
              cases c13
              · skip
                cases c17
                · skip
                  cases c16
                  · skip
                    cases c18
                    · skip
                      cases c4
                      · skip
                        rfl
                      · skip
                        rfl
                    · skip
                      rfl
                  · skip
                    rfl
                · skip
                  rfl
              · skip
                rfl
            · skip
              cases c14
              · skip
                cases c1
                · skip
                  cases c13
                  · skip
                    cases c17
                    · skip
                      cases c16
                      · skip
                        cases c18
                        · skip
                          cases c4
                          · skip
                            rfl
                          · skip
                            rfl
                        · skip
                          rfl
                      · skip
                        rfl
                    · skip
                      rfl
                  · skip
                    rfl
                · skip
                  rfl
              · skip
                rfl
          · skip
            cases c12
            · skip
              cases c0
              · skip
                cases c13
                · skip
                  cases c17
                  · skip
                    cases c16
                    · skip
                      cases c18
                      · skip
                        cases c4
                        · skip
                          rfl
                        · skip
                          rfl
                      · skip
                        rfl
                    · skip
                      rfl
                  · skip
                    rfl
                · skip
                  rfl
              · skip
                cases c14
                · skip
                  cases c1
                  · skip
                    cases c13
                    · skip
                      cases c17
                      · skip
                        cases c16
                        · skip
                          cases c18
                          · skip
                            cases c4
                            · skip
                              rfl
                            · skip
                              rfl
                          · skip
                            rfl
                        · skip
                          rfl
                      · skip
                        rfl
                    · skip
                      rfl
                  · skip
                    rfl
                · skip
                  rfl
            · skip
              rfl
        · skip
          cases c9
          · skip
            cases c11
            · skip
              cases c0
              · skip
                cases c13
                · skip
                  cases c17
                  · skip
                    cases c16
                    · skip
                      cases c18
                      · skip
                        cases c4
                        · skip
                          rfl
                        · skip
                          rfl
                      · skip
                        rfl
                    · skip
                      rfl
                  · skip
                    rfl
                · skip
                  rfl
              · skip
                cases c14
                · skip
                  cases c1
                  · skip
                    cases c13
                    · skip
                      cases c17
                      · skip
                        cases c16
                        · skip
                          cases c18
                          · skip
                            cases c4
                            · skip
                              rfl
                            · skip
                              rfl
                          · skip
                            rfl
                        · skip
                          rfl
                      · skip
                        rfl
                    · skip
                      rfl
                  · skip
                    rfl
                · skip
                  rfl
            · skip
              cases c12
              · skip
                cases c0
                · skip
                  cases c13
                  · skip
                    cases c17
                    · skip
                      cases c16
                      · skip
                        cases c18
                        · skip
                          cases c4
                          · skip
                            rfl
                          · skip
                            rfl
                        · skip
                          rfl
                      · skip
                        rfl
                    · skip
                      rfl
                  · skip
                    rfl
                · skip
                  cases c14
                  · skip
                    cases c1
                    · skip
                      cases c13
                      · skip
                        cases c17
                        · skip
                          cases c16
                          · skip
                            cases c18
                            · skip
                              cases c4
                              · skip
                                rfl
                              · skip
                                rfl
                            · skip
                              rfl
                          · skip
                            rfl
                        · skip
                          rfl
                      · skip
                        rfl
                    · skip
                      rfl
                  · skip
                    rfl
              · skip
                rfl
          · skip
            rfl
      · skip
        cases c8
        · skip
          cases c10
          · skip
            cases c11
            · skip
              cases c0
              · skip
                cases c13
                · skip
                  cases c17
                  · skip
                    cases c16
                    · skip
                      cases c18
                      · skip
                        cases c4
                        · skip
                          rfl
                        · skip
                          rfl
                      · skip
                        rfl
                    · skip
                      rfl
                  · skip
                    rfl
                · skip
                  rfl
              · skip
                cases c14
                · skip
                  cases c1
                  · skip
                    cases c13
                    · skip
                      cases c17
                      · skip
                        cases c16
                        · skip
                          cases c18
                          · skip
                            cases c4
                            · skip
                              rfl
                            · skip
                              rfl
                          · skip
                            rfl
                        · skip
                          rfl
                      · skip
                        rfl
                    · skip
                      rfl
                  · skip
                    rfl
                · skip
                  rfl
            · skip
              cases c12
              · skip
                cases c0
                · skip
                  cases c13
                  · skip
                    cases c17
                    · skip
                      cases c16
                      · skip
                        cases c18
                        · skip
                          cases c4
                          · skip
                            rfl
                          · skip
                            rfl
                        · skip
                          rfl
                      · skip
                        rfl
                    · skip
                      rfl
                  · skip
                    rfl
                · skip
                  cases c14
                  · skip
                    cases c1
                    · skip
                      cases c13
                      · skip
                        cases c17
                        · skip
                          cases c16
                          · skip
                            cases c18
                            · skip
                              cases c4
                              · skip
                                rfl
                              · skip
                                rfl
                            · skip
                              rfl
                          · skip
                            rfl
                        · skip
                          rfl
                      · skip
                        rfl
                    · skip
                      rfl
                  · skip
                    rfl
              · skip
                rfl
          · skip
            cases c9
            · skip
              cases c11
              · skip
                cases c0
                · skip
                  cases c13
                  · skip
                    cases c17
                    · skip
                      cases c16
                      · skip
                        cases c18
                        · skip
                          cases c4
                          · skip
                            rfl
                          · skip
                            rfl
                        · skip
                          rfl
                      · skip
                        rfl
                    · skip
                      rfl
                  · skip
                    rfl
                · skip
                  cases c14
                  · skip
                    cases c1
                    · skip
                      cases c13
                      · skip
                        cases c17
                        · skip
                          cases c16
                          · skip
                            cases c18
                            · skip
                              cases c4
                              · skip
                                rfl
                              · skip
                                rfl
                            · skip
                              rfl
                          · skip
                            rfl
                        · skip
                          rfl
                      · skip
                        rfl
                    · skip
                      rfl
                  · skip
                    rfl
              · skip
                cases c12
                · skip
                  cases c0
                  · skip
                    cases c13
                    · skip
                      cases c17
                      · skip
                        cases c16
                        · skip
                          cases c18
                          · skip
                            cases c4
                            · skip
                              rfl
                            · skip
                              rfl
                          · skip
                            rfl
                        · skip
                          rfl
                      · skip
                        rfl
                    · skip
                      rfl
                  · skip
                    cases c14
                    · skip
                      cases c1
                      · skip
                        cases c13
                        · skip
                          cases c17
                          · skip
                            cases c16
                            · skip
                              cases c18
                              · skip
                                cases c4
                                · skip
                                  rfl
                                · skip
                                  rfl
                              · skip
                                rfl
                            · skip
                              rfl
                          · skip
                            rfl
                        · skip
                          rfl
                      · skip
                        rfl
                    · skip
                      rfl
                · skip
                  rfl
            · skip
              rfl
        · skip
          cases c9
          · skip
            cases c10
            · skip
              cases c11
              · skip
                cases c0
                · skip
                  cases c13
                  · skip
                    cases c17
                    · skip
                      cases c16
                      · skip
                        cases c18
                        · skip
                          cases c4
                          · skip
                            rfl
                          · skip
                            rfl
                        · skip
                          rfl
                      · skip
                        rfl
                    · skip
                      rfl
                  · skip
                    rfl
                · skip
                  cases c14
                  · skip
                    cases c1
                    · skip
                      cases c13
                      · skip
                        cases c17
                        · skip
                          cases c16
                          · skip
                            cases c18
                            · skip
                              cases c4
                              · skip
                                rfl
                              · skip
                                rfl
                            · skip
                              rfl
                          · skip
                            rfl
                        · skip
                          rfl
                      · skip
                        rfl
                    · skip
                      rfl
                  · skip
                    rfl
              · skip
                cases c12
                · skip
                  cases c0
                  · skip
                    cases c13
                    · skip
                      cases c17
                      · skip
                        cases c16
                        · skip
                          cases c18
                          · skip
                            cases c4
                            · skip
                              rfl
                            · skip
                              rfl
                          · skip
                            rfl
                        · skip
                          rfl
                      · skip
                        rfl
                    · skip
                      rfl
                  · skip
                    cases c14
                    · skip
                      cases c1
                      · skip
                        cases c13
                        · skip
                          cases c17
                          · skip
                            cases c16
                            · skip
                              cases c18
                              · skip
                                cases c4
                                · skip
                                  rfl
                                · skip
                                  rfl
                              · skip
                                rfl
                            · skip
                              rfl
                          · skip
                            rfl
                        · skip
                          rfl
                      · skip
                        rfl
                    · skip
                      rfl
                · skip
                  rfl
            · skip
              cases c11
              · skip
                cases c0
                · skip
                  cases c13
                  · skip
                    cases c17
                    · skip
                      cases c16
                      · skip
                        cases c18
                        · skip
                          cases c4
                          · skip
                            rfl
                          · skip
                            rfl
                        · skip
                          rfl
                      · skip
                        rfl
                    · skip
                      rfl
                  · skip
                    rfl
                · skip
                  cases c14
                  · skip
                    cases c1
                    · skip
                      cases c13
                      · skip
                        cases c17
                        · skip
                          cases c16
                          · skip
                            cases c18
                            · skip
                              cases c4
                              · skip
                                rfl
                              · skip
                                rfl
                            · skip
                              rfl
                          · skip
                            rfl
                        · skip
                          rfl
                      · skip
                        rfl
                    · skip
                      rfl
                  · skip
                    rfl
              · skip
                cases c12
                · skip
                  cases c0
                  · skip
                    cases c13
                    · skip
                      cases c17
                      · skip
                        cases c16
                        · skip
                          cases c18
                          · skip
                            cases c4
                            · skip
                              rfl
                            · skip
                              rfl
                          · skip
                            rfl
                        · skip
                          rfl
                      · skip
                        rfl
                    · skip
                      rfl
                  · skip
                    cases c14
                    · skip
                      cases c1
                      · skip
                        cases c13
                        · skip
                          cases c17
                          · skip
                            cases c16
                            · skip
                              cases c18
                              · skip
                                cases c4
                                · skip
                                  rfl
                                · skip
                                  rfl
                              · skip
                                rfl
                            · skip
                              rfl
                          · skip
                            rfl
                        · skip
                          rfl
                      · skip
                        rfl
                    · skip
                      rfl
                · skip
                  rfl
          · skip
            rfl
    · skip
      cases c15
      · skip
        cases c19
        · skip
          cases c6
          · skip
            cases c7
            · skip
              cases c10
              · skip
                cases c11
                · skip
                  cases c0
                  · skip
                    cases c13
                    · skip
                      cases c17
                      · skip
                        cases c16
                        · skip
                          cases c18
                          · skip
                            cases c4
                            · skip
                              rfl
                            · skip
                              rfl
                          · skip
                            rfl
                        · skip
                          rfl
                      · skip
                        rfl
                    · skip
                      rfl
                  · skip
                    cases c14
                    · skip
                      cases c1
                      · skip
                        cases c13
                        · skip
                          cases c17
                          · skip
                            cases c16
                            · skip
                              cases c18
                              · skip
                                cases c4
                                · skip
                                  rfl
                                · skip
                                  rfl
                              · skip
                                rfl
                            · skip
                              rfl
                          · skip
                            rfl
                        · skip
                          rfl
                      · skip
                        rfl
                    · skip
                      rfl
                · skip
                  cases c12
                  · skip
                    cases c0
                    · skip
                      cases c13
                      · skip
                        cases c17
                        · skip
                          cases c16
                          · skip
                            cases c18
                            · skip
                              cases c4
                              · skip
                                rfl
                              · skip
                                rfl
                            · skip
                              rfl
                          · skip
                            rfl
                        · skip
                          rfl
                      · skip
                        rfl
                    · skip
                      cases c14
                      · skip
                        cases c1
                        · skip
                          cases c13
                          · skip
                            cases c17
                            · skip
                              cases c16
                              · skip
                                cases c18
                                · skip
                                  cases c4
                                  · skip
                                    rfl
                                  · skip
                                    rfl
                                · skip
                                  rfl
                              · skip
                                rfl
                            · skip
                              rfl
                          · skip
                            rfl
                        · skip
                          rfl
                      · skip
                        rfl
                  · skip
                    rfl
              · skip
                cases c9
                · skip
                  cases c11
                  · skip
                    cases c0
                    · skip
                      cases c13
                      · skip
                        cases c17
                        · skip
                          cases c16
                          · skip
                            cases c18
                            · skip
                              cases c4
                              · skip
                                rfl
                              · skip
                                rfl
                            · skip
                              rfl
                          · skip
                            rfl
                        · skip
                          rfl
                      · skip
                        rfl
                    · skip
                      cases c14
                      · skip
                        cases c1
                        · skip
                          cases c13
                          · skip
                            cases c17
                            · skip
                              cases c16
                              · skip
                                cases c18
                                · skip
                                  cases c4
                                  · skip
                                    rfl
                                  · skip
                                    rfl
                                · skip
                                  rfl
                              · skip
                                rfl
                            · skip
                              rfl
                          · skip
                            rfl
                        · skip
                          rfl
                      · skip
                        rfl
                  · skip
                    cases c12
                    · skip
                      cases c0
                      · skip
                        cases c13
                        · skip
                          cases c17
                          · skip
                            cases c16
                            · skip
                              cases c18
                              · skip
                                cases c4
                                · skip
                                  rfl
                                · skip
                                  rfl
                              · skip
                                rfl
                            · skip
                              rfl
                          · skip
                            rfl
                        · skip
                          rfl
                      · skip
                        cases c14
                        · skip
                          cases c1
                          · skip
                            cases c13
                            · skip
                              cases c17
                              · skip
                                cases c16
                                · skip
                                  cases c18
                                  · skip
                                    cases c4
                                    · skip
                                      rfl
                                    · skip
                                      rfl
                                  · skip
                                    rfl
                                · skip
                                  rfl
                              · skip
                                rfl
                            · skip
                              rfl
                          · skip
                            rfl
                        · skip
                          rfl
                    · skip
                      rfl
                · skip
                  rfl
            · skip
              cases c8
              · skip
                cases c10
                · skip
                  cases c11
                  · skip
                    cases c0
                    · skip
                      cases c13
                      · skip
                        cases c17
                        · skip
                          cases c16
                          · skip
                            cases c18
                            · skip
                              cases c4
                              · skip
                                rfl
                              · skip
                                rfl
                            · skip
                              rfl
                          · skip
                            rfl
                        · skip
                          rfl
                      · skip
                        rfl
                    · skip
                      cases c14
                      · skip
                        cases c1
                        · skip
                          cases c13
                          · skip
                            cases c17
                            · skip
                              cases c16
                              · skip
                                cases c18
                                · skip
                                  cases c4
                                  · skip
                                    rfl
                                  · skip
                                    rfl
                                · skip
                                  rfl
                              · skip
                                rfl
                            · skip
                              rfl
                          · skip
                            rfl
                        · skip
                          rfl
                      · skip
                        rfl
                  · skip
                    cases c12
                    · skip
                      cases c0
                      · skip
                        cases c13
                        · skip
                          cases c17
                          · skip
                            cases c16
                            · skip
                              cases c18
                              · skip
                                cases c4
                                · skip
                                  rfl
                                · skip
                                  rfl
                              · skip
                                rfl
                            · skip
                              rfl
                          · skip
                            rfl
                        · skip
                          rfl
                      · skip
                        cases c14
                        · skip
                          cases c1
                          · skip
                            cases c13
                            · skip
                              cases c17
                              · skip
                                cases c16
                                · skip
                                  cases c18
                                  · skip
                                    cases c4
                                    · skip
                                      rfl
                                    · skip
                                      rfl
                                  · skip
                                    rfl
                                · skip
                                  rfl
                              · skip
                                rfl
                            · skip
                              rfl
                          · skip
                            rfl
                        · skip
                          rfl
                    · skip
                      rfl
                · skip
                  cases c9
                  · skip
                    cases c11
                    · skip
                      cases c0
                      · skip
                        cases c13
                        · skip
                          cases c17
                          · skip
                            cases c16
                            · skip
                              cases c18
                              · skip
                                cases c4
                                · skip
                                  rfl
                                · skip
                                  rfl
                              · skip
                                rfl
                            · skip
                              rfl
                          · skip
                            rfl
                        · skip
                          rfl
                      · skip
                        cases c14
                        · skip
                          cases c1
                          · skip
                            cases c13
                            · skip
                              cases c17
                              · skip
                                cases c16
                                · skip
                                  cases c18
                                  · skip
                                    cases c4
                                    · skip
                                      rfl
                                    · skip
                                      rfl
                                  · skip
                                    rfl
                                · skip
                                  rfl
                              · skip
                                rfl
                            · skip
                              rfl
                          · skip
                            rfl
                        · skip
                          rfl
                    · skip
                      cases c12
                      · skip
                        cases c0
                        · skip
                          cases c13
                          · skip
                            cases c17
                            · skip
                              cases c16
                              · skip
                                cases c18
                                · skip
                                  cases c4
                                  · skip
                                    rfl
                                  · skip
                                    rfl
                                · skip
                                  rfl
                              · skip
                                rfl
                            · skip
                              rfl
                          · skip
                            rfl
                        · skip
                          cases c14
                          · skip
                            cases c1
                            · skip
                              cases c13
                              · skip
                                cases c17
                                · skip
                                  cases c16
                                  · skip
                                    cases c18
                                    · skip
                                      cases c4
                                      · skip
                                        rfl
                                      · skip
                                        rfl
                                    · skip
                                      rfl
                                  · skip
                                    rfl
                                · skip
                                  rfl
                              · skip
                                rfl
                            · skip
                              rfl
                          · skip
                            rfl
                      · skip
                        rfl
                  · skip
                    rfl
              · skip
                cases c9
                · skip
                  cases c10
                  · skip
                    cases c11
                    · skip
                      cases c0
                      · skip
                        cases c13
                        · skip
                          cases c17
                          · skip
                            cases c16
                            · skip
                              cases c18
                              · skip
                                cases c4
                                · skip
                                  rfl
                                · skip
                                  rfl
                              · skip
                                rfl
                            · skip
                              rfl
                          · skip
                            rfl
                        · skip
                          rfl
                      · skip
                        cases c14
                        · skip
                          cases c1
                          · skip
                            cases c13
                            · skip
                              cases c17
                              · skip
                                cases c16
                                · skip
                                  cases c18
                                  · skip
                                    cases c4
                                    · skip
                                      rfl
                                    · skip
                                      rfl
                                  · skip
                                    rfl
                                · skip
                                  rfl
                              · skip
                                rfl
                            · skip
                              rfl
                          · skip
                            rfl
                        · skip
                          rfl
                    · skip
                      cases c12
                      · skip
                        cases c0
                        · skip
                          cases c13
                          · skip
                            cases c17
                            · skip
                              cases c16
                              · skip
                                cases c18
                                · skip
                                  cases c4
                                  · skip
                                    rfl
                                  · skip
                                    rfl
                                · skip
                                  rfl
                              · skip
                                rfl
                            · skip
                              rfl
                          · skip
                            rfl
                        · skip
                          cases c14
                          · skip
                            cases c1
                            · skip
                              cases c13
                              · skip
                                cases c17
                                · skip
                                  cases c16
                                  · skip
                                    cases c18
                                    · skip
                                      cases c4
                                      · skip
                                        rfl
                                      · skip
                                        rfl
                                    · skip
                                      rfl
                                  · skip
                                    rfl
                                · skip
                                  rfl
                              · skip
                                rfl
                            · skip
                              rfl
                          · skip
                            rfl
                      · skip
                        rfl
                  · skip
                    cases c11
                    · skip
                      cases c0
                      · skip
                        cases c13
                        · skip
                          cases c17
                          · skip
                            cases c16
                            · skip
                              cases c18
                              · skip
                                cases c4
                                · skip
                                  rfl
                                · skip
                                  rfl
                              · skip
                                rfl
                            · skip
                              rfl
                          · skip
                            rfl
                        · skip
                          rfl
                      · skip
                        cases c14
                        · skip
                          cases c1
                          · skip
                            cases c13
                            · skip
                              cases c17
                              · skip
                                cases c16
                                · skip
                                  cases c18
                                  · skip
                                    cases c4
                                    · skip
                                      rfl
                                    · skip
                                      rfl
                                  · skip
                                    rfl
                                · skip
                                  rfl
                              · skip
                                rfl
                            · skip
                              rfl
                          · skip
                            rfl
                        · skip
                          rfl
                    · skip
                      cases c12
                      · skip
                        cases c0
                        · skip
                          cases c13
                          · skip
                            cases c17
                            · skip
                              cases c16
                              · skip
                                cases c18
                                · skip
                                  cases c4
                                  · skip
                                    rfl
                                  · skip
                                    rfl
                                · skip
                                  rfl
                              · skip
                                rfl
                            · skip
                              rfl
                          · skip
                            rfl
                        · skip
                          cases c14
                          · skip
                            cases c1
                            · skip
                              cases c13
                              · skip
                                cases c17
                                · skip
                                  cases c16
                                  · skip
                                    cases c18
                                    · skip
                                      cases c4
                                      · skip
                                        rfl
                                      · skip
                                        rfl
                                    · skip
                                      rfl
                                  · skip
                                    rfl
                                · skip
                                  rfl
                              · skip
                                rfl
                            · skip
                              rfl
                          · skip
                            rfl
                      · skip
                        rfl
                · skip
                  rfl
          · skip
            rfl
        · skip
          rfl
      · skip
        rfl
  · skip
    cases c2
    · skip
      cases c3
      · skip
        cases c7
        · skip
          cases c10
          · skip
            cases c11
            · skip
              cases c0
              · skip
                cases c13
                · skip
                  cases c17
                  · skip
                    cases c16
                    · skip
                      cases c18
                      · skip
                        cases c4
                        · skip
                          rfl
                        · skip
                          rfl
                      · skip
                        rfl
                    · skip
                      rfl
                  · skip
                    rfl
                · skip
                  rfl
              · skip
                cases c14
                · skip
                  cases c1
                  · skip
                    cases c13
                    · skip
                      cases c17
                      · skip
                        cases c16
                        · skip
                          cases c18
                          · skip
                            cases c4
                            · skip
                              rfl
                            · skip
                              rfl
                          · skip
                            rfl
                        · skip
                          rfl
                      · skip
                        rfl
                    · skip
                      rfl
                  · skip
                    rfl
                · skip
                  rfl
            · skip
              cases c12
              · skip
                cases c0
                · skip
                  cases c13
                  · skip
                    cases c17
                    · skip
                      cases c16
                      · skip
                        cases c18
                        · skip
                          cases c4
                          · skip
                            rfl
                          · skip
                            rfl
                        · skip
                          rfl
                      · skip
                        rfl
                    · skip
                      rfl
                  · skip
                    rfl
                · skip
                  cases c14
                  · skip
                    cases c1
                    · skip
                      cases c13
                      · skip
                        cases c17
                        · skip
                          cases c16
                          · skip
                            cases c18
                            · skip
                              cases c4
                              · skip
                                rfl
                              · skip
                                rfl
                            · skip
                              rfl
                          · skip
                            rfl
                        · skip
                          rfl
                      · skip
                        rfl
                    · skip
                      rfl
                  · skip
                    rfl
              · skip
                rfl
          · skip
            cases c9
            · skip
              cases c11
              · skip
                cases c0
                · skip
                  cases c13
                  · skip
                    cases c17
                    · skip
                      cases c16
                      · skip
                        cases c18
                        · skip
                          cases c4
                          · skip
                            rfl
                          · skip
                            rfl
                        · skip
                          rfl
                      · skip
                        rfl
                    · skip
                      rfl
                  · skip
                    rfl
                · skip
                  cases c14
                  · skip
                    cases c1
                    · skip
                      cases c13
                      · skip
                        cases c17
                        · skip
                          cases c16
                          · skip
                            cases c18
                            · skip
                              cases c4
                              · skip
                                rfl
                              · skip
                                rfl
                            · skip
                              rfl
                          · skip
                            rfl
                        · skip
                          rfl
                      · skip
                        rfl
                    · skip
                      rfl
                  · skip
                    rfl
              · skip
                cases c12
                · skip
                  cases c0
                  · skip
                    cases c13
                    · skip
                      cases c17
                      · skip
                        cases c16
                        · skip
                          cases c18
                          · skip
                            cases c4
                            · skip
                              rfl
                            · skip
                              rfl
                          · skip
                            rfl
                        · skip
                          rfl
                      · skip
                        rfl
                    · skip
                      rfl
                  · skip
                    cases c14
                    · skip
                      cases c1
                      · skip
                        cases c13
                        · skip
                          cases c17
                          · skip
                            cases c16
                            · skip
                              cases c18
                              · skip
                                cases c4
                                · skip
                                  rfl
                                · skip
                                  rfl
                              · skip
                                rfl
                            · skip
                              rfl
                          · skip
                            rfl
                        · skip
                          rfl
                      · skip
                        rfl
                    · skip
                      rfl
                · skip
                  rfl
            · skip
              rfl
        · skip
          cases c8
          · skip
            cases c10
            · skip
              cases c11
              · skip
                cases c0
                · skip
                  cases c13
                  · skip
                    cases c17
                    · skip
                      cases c16
                      · skip
                        cases c18
                        · skip
                          cases c4
                          · skip
                            rfl
                          · skip
                            rfl
                        · skip
                          rfl
                      · skip
                        rfl
                    · skip
                      rfl
                  · skip
                    rfl
                · skip
                  cases c14
                  · skip
                    cases c1
                    · skip
                      cases c13
                      · skip
                        cases c17
                        · skip
                          cases c16
                          · skip
                            cases c18
                            · skip
                              cases c4
                              · skip
                                rfl
                              · skip
                                rfl
                            · skip
                              rfl
                          · skip
                            rfl
                        · skip
                          rfl
                      · skip
                        rfl
                    · skip
                      rfl
                  · skip
                    rfl
              · skip
                cases c12
                · skip
                  cases c0
                  · skip
                    cases c13
                    · skip
                      cases c17
                      · skip
                        cases c16
                        · skip
                          cases c18
                          · skip
                            cases c4
                            · skip
                              rfl
                            · skip
                              rfl
                          · skip
                            rfl
                        · skip
                          rfl
                      · skip
                        rfl
                    · skip
                      rfl
                  · skip
                    cases c14
                    · skip
                      cases c1
                      · skip
                        cases c13
                        · skip
                          cases c17
                          · skip
                            cases c16
                            · skip
                              cases c18
                              · skip
                                cases c4
                                · skip
                                  rfl
                                · skip
                                  rfl
                              · skip
                                rfl
                            · skip
                              rfl
                          · skip
                            rfl
                        · skip
                          rfl
                      · skip
                        rfl
                    · skip
                      rfl
                · skip
                  rfl
            · skip
              cases c9
              · skip
                cases c11
                · skip
                  cases c0
                  · skip
                    cases c13
                    · skip
                      cases c17
                      · skip
                        cases c16
                        · skip
                          cases c18
                          · skip
                            cases c4
                            · skip
                              rfl
                            · skip
                              rfl
                          · skip
                            rfl
                        · skip
                          rfl
                      · skip
                        rfl
                    · skip
                      rfl
                  · skip
                    cases c14
                    · skip
                      cases c1
                      · skip
                        cases c13
                        · skip
                          cases c17
                          · skip
                            cases c16
                            · skip
                              cases c18
                              · skip
                                cases c4
                                · skip
                                  rfl
                                · skip
                                  rfl
                              · skip
                                rfl
                            · skip
                              rfl
                          · skip
                            rfl
                        · skip
                          rfl
                      · skip
                        rfl
                    · skip
                      rfl
                · skip
                  cases c12
                  · skip
                    cases c0
                    · skip
                      cases c13
                      · skip
                        cases c17
                        · skip
                          cases c16
                          · skip
                            cases c18
                            · skip
                              cases c4
                              · skip
                                rfl
                              · skip
                                rfl
                            · skip
                              rfl
                          · skip
                            rfl
                        · skip
                          rfl
                      · skip
                        rfl
                    · skip
                      cases c14
                      · skip
                        cases c1
                        · skip
                          cases c13
                          · skip
                            cases c17
                            · skip
                              cases c16
                              · skip
                                cases c18
                                · skip
                                  cases c4
                                  · skip
                                    rfl
                                  · skip
                                    rfl
                                · skip
                                  rfl
                              · skip
                                rfl
                            · skip
                              rfl
                          · skip
                            rfl
                        · skip
                          rfl
                      · skip
                        rfl
                  · skip
                    rfl
              · skip
                rfl
          · skip
            cases c9
            · skip
              cases c10
              · skip
                cases c11
                · skip
                  cases c0
                  · skip
                    cases c13
                    · skip
                      cases c17
                      · skip
                        cases c16
                        · skip
                          cases c18
                          · skip
                            cases c4
                            · skip
                              rfl
                            · skip
                              rfl
                          · skip
                            rfl
                        · skip
                          rfl
                      · skip
                        rfl
                    · skip
                      rfl
                  · skip
                    cases c14
                    · skip
                      cases c1
                      · skip
                        cases c13
                        · skip
                          cases c17
                          · skip
                            cases c16
                            · skip
                              cases c18
                              · skip
                                cases c4
                                · skip
                                  rfl
                                · skip
                                  rfl
                              · skip
                                rfl
                            · skip
                              rfl
                          · skip
                            rfl
                        · skip
                          rfl
                      · skip
                        rfl
                    · skip
                      rfl
                · skip
                  cases c12
                  · skip
                    cases c0
                    · skip
                      cases c13
                      · skip
                        cases c17
                        · skip
                          cases c16
                          · skip
                            cases c18
                            · skip
                              cases c4
                              · skip
                                rfl
                              · skip
                                rfl
                            · skip
                              rfl
                          · skip
                            rfl
                        · skip
                          rfl
                      · skip
                        rfl
                    · skip
                      cases c14
                      · skip
                        cases c1
                        · skip
                          cases c13
                          · skip
                            cases c17
                            · skip
                              cases c16
                              · skip
                                cases c18
                                · skip
                                  cases c4
                                  · skip
                                    rfl
                                  · skip
                                    rfl
                                · skip
                                  rfl
                              · skip
                                rfl
                            · skip
                              rfl
                          · skip
                            rfl
                        · skip
                          rfl
                      · skip
                        rfl
                  · skip
                    rfl
              · skip
                cases c11
                · skip
                  cases c0
                  · skip
                    cases c13
                    · skip
                      cases c17
                      · skip
                        cases c16
                        · skip
                          cases c18
                          · skip
                            cases c4
                            · skip
                              rfl
                            · skip
                              rfl
                          · skip
                            rfl
                        · skip
                          rfl
                      · skip
                        rfl
                    · skip
                      rfl
                  · skip
                    cases c14
                    · skip
                      cases c1
                      · skip
                        cases c13
                        · skip
                          cases c17
                          · skip
                            cases c16
                            · skip
                              cases c18
                              · skip
                                cases c4
                                · skip
                                  rfl
                                · skip
                                  rfl
                              · skip
                                rfl
                            · skip
                              rfl
                          · skip
                            rfl
                        · skip
                          rfl
                      · skip
                        rfl
                    · skip
                      rfl
                · skip
                  cases c12
                  · skip
                    cases c0
                    · skip
                      cases c13
                      · skip
                        cases c17
                        · skip
                          cases c16
                          · skip
                            cases c18
                            · skip
                              cases c4
                              · skip
                                rfl
                              · skip
                                rfl
                            · skip
                              rfl
                          · skip
                            rfl
                        · skip
                          rfl
                      · skip
                        rfl
                    · skip
                      cases c14
                      · skip
                        cases c1
                        · skip
                          cases c13
                          · skip
                            cases c17
                            · skip
                              cases c16
                              · skip
                                cases c18
                                · skip
                                  cases c4
                                  · skip
                                    rfl
                                  · skip
                                    rfl
                                · skip
                                  rfl
                              · skip
                                rfl
                            · skip
                              rfl
                          · skip
                            rfl
                        · skip
                          rfl
                      · skip
                        rfl
                  · skip
                    rfl
            · skip
              rfl
      · skip
        cases c15
        · skip
          cases c19
          · skip
            cases c6
            · skip
              cases c7
              · skip
                cases c10
                · skip
                  cases c11
                  · skip
                    cases c0
                    · skip
                      cases c13
                      · skip
                        cases c17
                        · skip
                          cases c16
                          · skip
                            cases c18
                            · skip
                              cases c4
                              · skip
                                rfl
                              · skip
                                rfl
                            · skip
                              rfl
                          · skip
                            rfl
                        · skip
                          rfl
                      · skip
                        rfl
                    · skip
                      cases c14
                      · skip
                        cases c1
                        · skip
                          cases c13
                          · skip
                            cases c17
                            · skip
                              cases c16
                              · skip
                                cases c18
                                · skip
                                  cases c4
                                  · skip
                                    rfl
                                  · skip
                                    rfl
                                · skip
                                  rfl
                              · skip
                                rfl
                            · skip
                              rfl
                          · skip
                            rfl
                        · skip
                          rfl
                      · skip
                        rfl
                  · skip
                    cases c12
                    · skip
                      cases c0
                      · skip
                        cases c13
                        · skip
                          cases c17
                          · skip
                            cases c16
                            · skip
                              cases c18
                              · skip
                                cases c4
                                · skip
                                  rfl
                                · skip
                                  rfl
                              · skip
                                rfl
                            · skip
                              rfl
                          · skip
                            rfl
                        · skip
                          rfl
                      · skip
                        cases c14
                        · skip
                          cases c1
                          · skip
                            cases c13
                            · skip
                              cases c17
                              · skip
                                cases c16
                                · skip
                                  cases c18
                                  · skip
                                    cases c4
                                    · skip
                                      rfl
                                    · skip
                                      rfl
                                  · skip
                                    rfl
                                · skip
                                  rfl
                              · skip
                                rfl
                            · skip
                              rfl
                          · skip
                            rfl
                        · skip
                          rfl
                    · skip
                      rfl
                · skip
                  cases c9
                  · skip
                    cases c11
                    · skip
                      cases c0
                      · skip
                        cases c13
                        · skip
                          cases c17
                          · skip
                            cases c16
                            · skip
                              cases c18
                              · skip
                                cases c4
                                · skip
                                  rfl
                                · skip
                                  rfl
                              · skip
                                rfl
                            · skip
                              rfl
                          · skip
                            rfl
                        · skip
                          rfl
                      · skip
                        cases c14
                        · skip
                          cases c1
                          · skip
                            cases c13
                            · skip
                              cases c17
                              · skip
                                cases c16
                                · skip
                                  cases c18
                                  · skip
                                    cases c4
                                    · skip
                                      rfl
                                    · skip
                                      rfl
                                  · skip
                                    rfl
                                · skip
                                  rfl
                              · skip
                                rfl
                            · skip
                              rfl
                          · skip
                            rfl
                        · skip
                          rfl
                    · skip
                      cases c12
                      · skip
                        cases c0
                        · skip
                          cases c13
                          · skip
                            cases c17
                            · skip
                              cases c16
                              · skip
                                cases c18
                                · skip
                                  cases c4
                                  · skip
                                    rfl
                                  · skip
                                    rfl
                                · skip
                                  rfl
                              · skip
                                rfl
                            · skip
                              rfl
                          · skip
                            rfl
                        · skip
                          cases c14
                          · skip
                            cases c1
                            · skip
                              cases c13
                              · skip
                                cases c17
                                · skip
                                  cases c16
                                  · skip
                                    cases c18
                                    · skip
                                      cases c4
                                      · skip
                                        rfl
                                      · skip
                                        rfl
                                    · skip
                                      rfl
                                  · skip
                                    rfl
                                · skip
                                  rfl
                              · skip
                                rfl
                            · skip
                              rfl
                          · skip
                            rfl
                      · skip
                        rfl
                  · skip
                    rfl
              · skip
                cases c8
                · skip
                  cases c10
                  · skip
                    cases c11
                    · skip
                      cases c0
                      · skip
                        cases c13
                        · skip
                          cases c17
                          · skip
                            cases c16
                            · skip
                              cases c18
                              · skip
                                cases c4
                                · skip
                                  rfl
                                · skip
                                  rfl
                              · skip
                                rfl
                            · skip
                              rfl
                          · skip
                            rfl
                        · skip
                          rfl
                      · skip
                        cases c14
                        · skip
                          cases c1
                          · skip
                            cases c13
                            · skip
                              cases c17
                              · skip
                                cases c16
                                · skip
                                  cases c18
                                  · skip
                                    cases c4
                                    · skip
                                      rfl
                                    · skip
                                      rfl
                                  · skip
                                    rfl
                                · skip
                                  rfl
                              · skip
                                rfl
                            · skip
                              rfl
                          · skip
                            rfl
                        · skip
                          rfl
                    · skip
                      cases c12
                      · skip
                        cases c0
                        · skip
                          cases c13
                          · skip
                            cases c17
                            · skip
                              cases c16
                              · skip
                                cases c18
                                · skip
                                  cases c4
                                  · skip
                                    rfl
                                  · skip
                                    rfl
                                · skip
                                  rfl
                              · skip
                                rfl
                            · skip
                              rfl
                          · skip
                            rfl
                        · skip
                          cases c14
                          · skip
                            cases c1
                            · skip
                              cases c13
                              · skip
                                cases c17
                                · skip
                                  cases c16
                                  · skip
                                    cases c18
                                    · skip
                                      cases c4
                                      · skip
                                        rfl
                                      · skip
                                        rfl
                                    · skip
                                      rfl
                                  · skip
                                    rfl
                                · skip
                                  rfl
                              · skip
                                rfl
                            · skip
                              rfl
                          · skip
                            rfl
                      · skip
                        rfl
                  · skip
                    cases c9
                    · skip
                      cases c11
                      · skip
                        cases c0
                        · skip
                          cases c13
                          · skip
                            cases c17
                            · skip
                              cases c16
                              · skip
                                cases c18
                                · skip
                                  cases c4
                                  · skip
                                    rfl
                                  · skip
                                    rfl
                                · skip
                                  rfl
                              · skip
                                rfl
                            · skip
                              rfl
                          · skip
                            rfl
                        · skip
                          cases c14
                          · skip
                            cases c1
                            · skip
                              cases c13
                              · skip
                                cases c17
                                · skip
                                  cases c16
                                  · skip
                                    cases c18
                                    · skip
                                      cases c4
                                      · skip
                                        rfl
                                      · skip
                                        rfl
                                    · skip
                                      rfl
                                  · skip
                                    rfl
                                · skip
                                  rfl
                              · skip
                                rfl
                            · skip
                              rfl
                          · skip
                            rfl
                      · skip
                        cases c12
                        · skip
                          cases c0
                          · skip
                            cases c13
                            · skip
                              cases c17
                              · skip
                                cases c16
                                · skip
                                  cases c18
                                  · skip
                                    cases c4
                                    · skip
                                      rfl
                                    · skip
                                      rfl
                                  · skip
                                    rfl
                                · skip
                                  rfl
                              · skip
                                rfl
                            · skip
                              rfl
                          · skip
                            cases c14
                            · skip
                              cases c1
                              · skip
                                cases c13
                                · skip
                                  cases c17
                                  · skip
                                    cases c16
                                    · skip
                                      cases c18
                                      · skip
                                        cases c4
                                        · skip
                                          rfl
                                        · skip
                                          rfl
                                      · skip
                                        rfl
                                    · skip
                                      rfl
                                  · skip
                                    rfl
                                · skip
                                  rfl
                              · skip
                                rfl
                            · skip
                              rfl
                        · skip
                          rfl
                    · skip
                      rfl
                · skip
                  cases c9
                  · skip
                    cases c10
                    · skip
                      cases c11
                      · skip
                        cases c0
                        · skip
                          cases c13
                          · skip
                            cases c17
                            · skip
                              cases c16
                              · skip
                                cases c18
                                · skip
                                  cases c4
                                  · skip
                                    rfl
                                  · skip
                                    rfl
                                · skip
                                  rfl
                              · skip
                                rfl
                            · skip
                              rfl
                          · skip
                            rfl
                        · skip
                          cases c14
                          · skip
                            cases c1
                            · skip
                              cases c13
                              · skip
                                cases c17
                                · skip
                                  cases c16
                                  · skip
                                    cases c18
                                    · skip
                                      cases c4
                                      · skip
                                        rfl
                                      · skip
                                        rfl
                                    · skip
                                      rfl
                                  · skip
                                    rfl
                                · skip
                                  rfl
                              · skip
                                rfl
                            · skip
                              rfl
                          · skip
                            rfl
                      · skip
                        cases c12
                        · skip
                          cases c0
                          · skip
                            cases c13
                            · skip
                              cases c17
                              · skip
                                cases c16
                                · skip
                                  cases c18
                                  · skip
                                    cases c4
                                    · skip
                                      rfl
                                    · skip
                                      rfl
                                  · skip
                                    rfl
                                · skip
                                  rfl
                              · skip
                                rfl
                            · skip
                              rfl
                          · skip
                            cases c14
                            · skip
                              cases c1
                              · skip
                                cases c13
                                · skip
                                  cases c17
                                  · skip
                                    cases c16
                                    · skip
                                      cases c18
                                      · skip
                                        cases c4
                                        · skip
                                          rfl
                                        · skip
                                          rfl
                                      · skip
                                        rfl
                                    · skip
                                      rfl
                                  · skip
                                    rfl
                                · skip
                                  rfl
                              · skip
                                rfl
                            · skip
                              rfl
                        · skip
                          rfl
                    · skip
                      cases c11
                      · skip
                        cases c0
                        · skip
                          cases c13
                          · skip
                            cases c17
                            · skip
                              cases c16
                              · skip
                                cases c18
                                · skip
                                  cases c4
                                  · skip
                                    rfl
                                  · skip
                                    rfl
                                · skip
                                  rfl
                              · skip
                                rfl
                            · skip
                              rfl
                          · skip
                            rfl
                        · skip
                          cases c14
                          · skip
                            cases c1
                            · skip
                              cases c13
                              · skip
                                cases c17
                                · skip
                                  cases c16
                                  · skip
                                    cases c18
                                    · skip
                                      cases c4
                                      · skip
                                        rfl
                                      · skip
                                        rfl
                                    · skip
                                      rfl
                                  · skip
                                    rfl
                                · skip
                                  rfl
                              · skip
                                rfl
                            · skip
                              rfl
                          · skip
                            rfl
                      · skip
                        cases c12
                        · skip
                          cases c0
                          · skip
                            cases c13
                            · skip
                              cases c17
                              · skip
                                cases c16
                                · skip
                                  cases c18
                                  · skip
                                    cases c4
                                    · skip
                                      rfl
                                    · skip
                                      rfl
                                  · skip
                                    rfl
                                · skip
                                  rfl
                              · skip
                                rfl
                            · skip
                              rfl
                          · skip
                            cases c14
                            · skip
                              cases c1
                              · skip
                                cases c13
                                · skip
                                  cases c17
                                  · skip
                                    cases c16
                                    · skip
                                      cases c18
                                      · skip
                                        cases c4
                                        · skip
                                          rfl
                                        · skip
                                          rfl
                                      · skip
                                        rfl
                                    · skip
                                      rfl
                                  · skip
                                    rfl
                                · skip
                                  rfl
                              · skip
                                rfl
                            · skip
                              rfl
                        · skip
                          rfl
                  · skip
                    rfl
            · skip
              rfl
          · skip
            rfl
        · skip
          rfl
    · skip
      rfl
-- spec true ;; (true, AV.bool (vev50_0 t g n d pa de so we co la inc ps), [])
noncomputable def sp50 : List AV → List Blk → Option (Bool × AV × List Blk)
  | [.agg [.int .u8 t, .int .u8 g, .int .i64 n, .str d, .int .i64 pa, .int .i64 de, .bool so, .int .u8 we, .int .u32 co, .int .i64 la, .int .i64 inc, .sl .imm [.int .u16, .int .u32] ps]], [] => spW (true) (some ((true, AV.bool (vev50_0 t g n d pa de so we co la inc ps), [])))
  | _, _ => none
noncomputable def k50 : Gam := fun f T C => match Nat.beq f 50 with
  | true => (sp50 T C).or (k65 f T C)
  | false => k65 f T C
theorem k50_ok : GamOK Try.prog k50 := by
  intro f T C r outs h
  unfold k50 at h
  cases hf : Nat.beq f 50 with
  | false => rw [hf] at h; exact k65_ok f T C r outs h
  | true =>
    have hf' := Nat.eq_of_beq_eq_true hf
    subst hf'
    rw [hf] at h
    dsimp only at h
    cases hs : sp50 T C with
    | none => rw [hs] at h; exact k65_ok _ T C r outs h
    | some x =>
      rw [hs] at h
      have hx : x = (true, r, outs) := by simpa using h
      subst hx
      unfold sp50 at hs
      split at hs
      · rename_i t g n d pa de so we co la inc ps
        obtain ⟨hb, rfl, rfl⟩ := spT_inv hs
        have he := ev50 t g n d pa de so we co la inc ps
        obtain ⟨r0, o0, h0, he⟩ := evFin_inv he
        obtain ⟨h1, h2⟩ := fn_ok mixed plain (gk_ok k65_ok 30) Try.func50 (fun c _ => LoopsOK.none (fun _ _ => rfl) c) h0
        exact ⟨h1, h2.fin he⟩
      · cases hs
noncomputable def vev66_0 (n : Int) : Int := IntKind.u8.wrap (n.fdiv ((2 : Int) ^ min (Int.toNat (24 : Int)) IntKind.u32.bits))
noncomputable def vev66_1 (n : Int) : Int := IntKind.u8.wrap (n.fdiv ((2 : Int) ^ min (Int.toNat (16 : Int)) IntKind.u32.bits))
noncomputable def vev66_2 (n : Int) : Int := IntKind.u8.wrap (n.fdiv ((2 : Int) ^ min (Int.toNat (8 : Int)) IntKind.u32.bits))
theorem ev66 (n : Int) : evFun (cfg Try.prog tab 100000 (gk k50 30) noLsp 66 ([] : List Blk).length Try.f66.ntmps) Try.f66 [.int .u32 n] [] = some (AV.rf (nat_lit 0) [Kd.int IntKind.u8], [Blk.row [Kd.int IntKind.u8] [[AV.int IntKind.u8 (vev66_0 n)], [AV.int IntKind.u8 (vev66_1 n)], [AV.int IntKind.u8 (vev66_2 n)], [AV.int IntKind.u8 (IntKind.u8.wrap n)]]]) := by kernel_rfl
-- spec true ;; (AV.rf (nat_lit 0) [Kd.int IntKind.u8], [Blk.row [Kd.int IntKind.u8] [[AV.int IntKind.u8 (vev66_0 n)], [AV.int IntKind.u8 (vev66_1 n)], [AV.int IntKind.u8 (vev66_2 n)], [AV.int IntKind.u8 (IntKind.u8.wrap n)]]])
noncomputable def sp66 : List AV → List Blk → Option (Bool × AV × List Blk)
  | [.int .u32 n], [] => spW (true) (fin Try.prog (tab.frz 66) ([] : List Blk).length Try.f66.resultTypes.toList (some ((AV.rf (nat_lit 0) [Kd.int IntKind.u8], [Blk.row [Kd.int IntKind.u8] [[AV.int IntKind.u8 (vev66_0 n)], [AV.int IntKind.u8 (vev66_1 n)], [AV.int IntKind.u8 (vev66_2 n)], [AV.int IntKind.u8 (IntKind.u8.wrap n)]]]))))
  | _, _ => none
noncomputable def k66 : Gam := fun f T C => match Nat.beq f 66 with
  | true => (sp66 T C).or (k50 f T C)
  | false => k50 f T C
theorem k66_ok : GamOK Try.prog k66 := by
  intro f T C r outs h
  unfold k66 at h
  cases hf : Nat.beq f 66 with
  | false => rw [hf] at h; exact k50_ok f T C r outs h
  | true =>
    have hf' := Nat.eq_of_beq_eq_true hf
    subst hf'
    rw [hf] at h
    dsimp only at h
    cases hs : sp66 T C with
    | none => rw [hs] at h; exact k50_ok _ T C r outs h
    | some x =>
      rw [hs] at h
      have hx : x = (true, r, outs) := by simpa using h
      subst hx
      unfold sp66 at hs
      split at hs
      · rename_i n
        obtain ⟨hb, hs⟩ := spW_inv hs
        have he := ev66 n
        obtain ⟨h1, h2⟩ := fn_ok mixed plain (gk_ok k50_ok 30) Try.func66 (fun c _ => LoopsOK.none (fun _ _ => rfl) c) he
        exact ⟨h1, h2.fin hs⟩
      · cases hs
noncomputable def rn45_18_0 (t63 : List (List AV)) (t64 : Int) (t65 : Int) (b16_0 : Int) (b16_1 : Int) (b16_2 : Int) (b16_3 : List UInt8) (b16_4 : Int) (b16_5 : Int) (b16_6 : Bool) (b16_7 : Int) (b16_8 : Int) (b16_9 : Int) (b16_10 : Int) (b16_11 : List (List AV)) (b17 : List (List AV)) : Int := intOf ((t63.getD t65.toNat []).getD (0 : Nat) AV.junk)
noncomputable def rn45_18_1 (t63 : List (List AV)) (t64 : Int) (t65 : Int) (b16_0 : Int) (b16_1 : Int) (b16_2 : Int) (b16_3 : List UInt8) (b16_4 : Int) (b16_5 : Int) (b16_6 : Bool) (b16_7 : Int) (b16_8 : Int) (b16_9 : Int) (b16_10 : Int) (b16_11 : List (List AV)) (b17 : List (List AV)) : List (List AV) := [[AV.int IntKind.u8 (IntKind.u8.wrap ((rn45_18_0 t63 t64 t65 b16_0 b16_1 b16_2 b16_3 b16_4 b16_5 b16_6 b16_7 b16_8 b16_9 b16_10 b16_11 b17).fdiv ((2 : Int) ^ min (Int.toNat (8 : Int)) IntKind.u16.bits)))], [AV.int IntKind.u8 (IntKind.u8.wrap (rn45_18_0 t63 t64 t65 b16_0 b16_1 b16_2 b16_3 b16_4 b16_5 b16_6 b16_7 b16_8 b16_9 b16_10 b16_11 b17))]]
noncomputable def rn45_18_2 (t63 : List (List AV)) (t64 : Int) (t65 : Int) (b16_0 : Int) (b16_1 : Int) (b16_2 : Int) (b16_3 : List UInt8) (b16_4 : Int) (b16_5 : Int) (b16_6 : Bool) (b16_7 : Int) (b16_8 : Int) (b16_9 : Int) (b16_10 : Int) (b16_11 : List (List AV)) (b17 : List (List AV)) : List (List AV) := b17 ++ rn45_18_1 t63 t64 t65 b16_0 b16_1 b16_2 b16_3 b16_4 b16_5 b16_6 b16_7 b16_8 b16_9 b16_10 b16_11 b17
noncomputable def rn45_18_3 (t63 : List (List AV)) (t64 : Int) (t65 : Int) (b16_0 : Int) (b16_1 : Int) (b16_2 : Int) (b16_3 : List UInt8) (b16_4 : Int) (b16_5 : Int) (b16_6 : Bool) (b16_7 : Int) (b16_8 : Int) (b16_9 : Int) (b16_10 : Int) (b16_11 : List (List AV)) (b17 : List (List AV)) : Int := intOf ((t63.getD t65.toNat []).getD ((0 : Nat) + (1 : Nat)) AV.junk)
noncomputable def rn45_18_4 (t63 : List (List AV)) (t64 : Int) (t65 : Int) (b16_0 : Int) (b16_1 : Int) (b16_2 : Int) (b16_3 : List UInt8) (b16_4 : Int) (b16_5 : Int) (b16_6 : Bool) (b16_7 : Int) (b16_8 : Int) (b16_9 : Int) (b16_10 : Int) (b16_11 : List (List AV)) (b17 : List (List AV)) : List (List AV) := [[AV.int IntKind.u8 (vev66_0 (rn45_18_3 t63 t64 t65 b16_0 b16_1 b16_2 b16_3 b16_4 b16_5 b16_6 b16_7 b16_8 b16_9 b16_10 b16_11 b17))], [AV.int IntKind.u8 (vev66_1 (rn45_18_3 t63 t64 t65 b16_0 b16_1 b16_2 b16_3 b16_4 b16_5 b16_6 b16_7 b16_8 b16_9 b16_10 b16_11 b17))], [AV.int IntKind.u8 (vev66_2 (rn45_18_3 t63 t64 t65 b16_0 b16_1 b16_2 b16_3 b16_4 b16_5 b16_6 b16_7 b16_8 b16_9 b16_10 b16_11 b17))], [AV.int IntKind.u8 (IntKind.u8.wrap (rn45_18_3 t63 t64 t65 b16_0 b16_1 b16_2 b16_3 b16_4 b16_5 b16_6 b16_7 b16_8 b16_9 b16_10 b16_11 b17))]]
noncomputable def go45_18 (t63 : List (List AV)) (t64 : Int) (t65 : Int) (b16_0 : Int) (b16_1 : Int) (b16_2 : Int) (b16_3 : List UInt8) (b16_4 : Int) (b16_5 : Int) (b16_6 : Bool) (b16_7 : Int) (b16_8 : Int) (b16_9 : Int) (b16_10 : Int) (b16_11 : List (List AV)) (b17 : List (List AV)) : Bool := bif decide (t65 < t64) then bif decide ((0 : Int) ≤ t65) && decide (t65 < (↑t63.length : Int)) then bif bif decide ((b17.length + (rn45_18_1 t63 t64 t65 b16_0 b16_1 b16_2 b16_3 b16_4 b16_5 b16_6 b16_7 b16_8 b16_9 b16_10 b16_11 b17).length) * (1 : Nat) ≤ (140737488355328 : Nat)) then decide (b17.length + (rn45_18_1 t63 t64 t65 b16_0 b16_1 b16_2 b16_3 b16_4 b16_5 b16_6 b16_7 b16_8 b16_9 b16_10 b16_11 b17).length ≤ (9223372036854775807 : Nat)) else false then bif decide (((rn45_18_2 t63 t64 t65 b16_0 b16_1 b16_2 b16_3 b16_4 b16_5 b16_6 b16_7 b16_8 b16_9 b16_10 b16_11 b17).length + (rn45_18_4 t63 t64 t65 b16_0 b16_1 b16_2 b16_3 b16_4 b16_5 b16_6 b16_7 b16_8 b16_9 b16_10 b16_11 b17).length) * (1 : Nat) ≤ (140737488355328 : Nat)) then decide ((rn45_18_2 t63 t64 t65 b16_0 b16_1 b16_2 b16_3 b16_4 b16_5 b16_6 b16_7 b16_8 b16_9 b16_10 b16_11 b17).length + (rn45_18_4 t63 t64 t65 b16_0 b16_1 b16_2 b16_3 b16_4 b16_5 b16_6 b16_7 b16_8 b16_9 b16_10 b16_11 b17).length ≤ (9223372036854775807 : Nat)) else false else false else false else false
noncomputable def nx45_18_2 (t63 : List (List AV)) (t64 : Int) (t65 : Int) (b16_0 : Int) (b16_1 : Int) (b16_2 : Int) (b16_3 : List UInt8) (b16_4 : Int) (b16_5 : Int) (b16_6 : Bool) (b16_7 : Int) (b16_8 : Int) (b16_9 : Int) (b16_10 : Int) (b16_11 : List (List AV)) (b17 : List (List AV)) : Int := IntKind.i64.wrap (t65 + (1 : Int))
noncomputable def nx45_18_15 (t63 : List (List AV)) (t64 : Int) (t65 : Int) (b16_0 : Int) (b16_1 : Int) (b16_2 : Int) (b16_3 : List UInt8) (b16_4 : Int) (b16_5 : Int) (b16_6 : Bool) (b16_7 : Int) (b16_8 : Int) (b16_9 : Int) (b16_10 : Int) (b16_11 : List (List AV)) (b17 : List (List AV)) : List (List AV) := rn45_18_2 t63 t64 t65 b16_0 b16_1 b16_2 b16_3 b16_4 b16_5 b16_6 b16_7 b16_8 b16_9 b16_10 b16_11 b17 ++ rn45_18_4 t63 t64 t65 b16_0 b16_1 b16_2 b16_3 b16_4 b16_5 b16_6 b16_7 b16_8 b16_9 b16_10 b16_11 b17
noncomputable def xc45_18_0 (t63 : List (List AV)) (t64 : Int) (t65 : Int) (b16_0 : Int) (b16_1 : Int) (b16_2 : Int) (b16_3 : List UInt8) (b16_4 : Int) (b16_5 : Int) (b16_6 : Bool) (b16_7 : Int) (b16_8 : Int) (b16_9 : Int) (b16_10 : Int) (b16_11 : List (List AV)) (b17 : List (List AV)) : Bool := bif decide (t65 < t64) then false else true
theorem rd45_18 (rest : Lsp) (t63 : List (List AV)) (t64 : Int) (t65 : Int) (b16_0 : Int) (b16_1 : Int) (b16_2 : Int) (b16_3 : List UInt8) (b16_4 : Int) (b16_5 : Int) (b16_6 : Bool) (b16_7 : Int) (b16_8 : Int) (b16_9 : Int) (b16_10 : Int) (b16_11 : List (List AV)) (b17 : List (List AV)) : roundV (cfg Try.prog tab 100000 (gk k66 30) rest 45 0 Try.f45.ntmps) (loopAt Try.f45 18) [1, 3, 63, 64, 65] [4, 7, 9, 11, 13, 15, 16, 17] [1, 3] [4, 7, 9, 11, 13, 15, 16, 17] [AV.hp (nat_lit 16) (nat_lit 0), AV.rf (nat_lit 17) [Kd.int IntKind.u8], AV.sl Tk.imm [Kd.int IntKind.u16, Kd.int IntKind.u32] t63, AV.int IntKind.i64 t64, AV.int IntKind.i64 t65] [Blk.dead, Blk.dead, Blk.dead, Blk.dead, Blk.dead, Blk.dead, Blk.var [AV.int IntKind.u8 b16_0, AV.int IntKind.u8 b16_1, AV.int IntKind.i64 b16_2, AV.str b16_3, AV.int IntKind.i64 b16_4, AV.int IntKind.i64 b16_5, AV.bool b16_6, AV.int IntKind.u8 b16_7, AV.int IntKind.u32 b16_8, AV.int IntKind.i64 b16_9, AV.int IntKind.i64 b16_10, AV.sl Tk.imm [Kd.int IntKind.u16, Kd.int IntKind.u32] b16_11], Blk.row [Kd.int IntKind.u8] b17] = bif go45_18 t63 t64 t65 b16_0 b16_1 b16_2 b16_3 b16_4 b16_5 b16_6 b16_7 b16_8 b16_9 b16_10 b16_11 b17 then some (Ex.norm, [AV.hp (nat_lit 16) (nat_lit 0), AV.rf (nat_lit 17) [Kd.int IntKind.u8], AV.sl Tk.imm [Kd.int IntKind.u16, Kd.int IntKind.u32] t63, AV.int IntKind.i64 t64, AV.int IntKind.i64 (nx45_18_2 t63 t64 t65 b16_0 b16_1 b16_2 b16_3 b16_4 b16_5 b16_6 b16_7 b16_8 b16_9 b16_10 b16_11 b17)], [Blk.dead, Blk.dead, Blk.dead, Blk.dead, Blk.dead, Blk.dead, Blk.var [AV.int IntKind.u8 b16_0, AV.int IntKind.u8 b16_1, AV.int IntKind.i64 b16_2, AV.str b16_3, AV.int IntKind.i64 b16_4, AV.int IntKind.i64 b16_5, AV.bool b16_6, AV.int IntKind.u8 b16_7, AV.int IntKind.u32 b16_8, AV.int IntKind.i64 b16_9, AV.int IntKind.i64 b16_10, AV.sl Tk.imm [Kd.int IntKind.u16, Kd.int IntKind.u32] b16_11], Blk.row [Kd.int IntKind.u8] (nx45_18_15 t63 t64 t65 b16_0 b16_1 b16_2 b16_3 b16_4 b16_5 b16_6 b16_7 b16_8 b16_9 b16_10 b16_11 b17)]) else bif xc45_18_0 t63 t64 t65 b16_0 b16_1 b16_2 b16_3 b16_4 b16_5 b16_6 b16_7 b16_8 b16_9 b16_10 b16_11 b17 then some (Ex.exit (nat_lit 6), [AV.hp (nat_lit 16) (nat_lit 0), AV.rf (nat_lit 17) [Kd.int IntKind.u8]], [Blk.dead, Blk.dead, Blk.dead, Blk.dead, Blk.dead, Blk.dead, Blk.var [AV.int IntKind.u8 b16_0, AV.int IntKind.u8 b16_1, AV.int IntKind.i64 b16_2, AV.str b16_3, AV.int IntKind.i64 b16_4, AV.int IntKind.i64 b16_5, AV.bool b16_6, AV.int IntKind.u8 b16_7, AV.int IntKind.u32 b16_8, AV.int IntKind.i64 b16_9, AV.int IntKind.i64 b16_10, AV.sl Tk.imm [Kd.int IntKind.u16, Kd.int IntKind.u32] b16_11], Blk.row [Kd.int IntKind.u8] b17]) else none := by
  have h : roundV (cfg Try.prog tab 100000 (gk k66 30) rest 45 0 Try.f45.ntmps) (loopAt Try.f45 18) [1, 3, 63, 64, 65] [4, 7, 9, 11, 13, 15, 16, 17] [1, 3] [4, 7, 9, 11, 13, 15, 16, 17] [AV.hp (nat_lit 16) (nat_lit 0), AV.rf (nat_lit 17) [Kd.int IntKind.u8], AV.sl Tk.imm [Kd.int IntKind.u16, Kd.int IntKind.u32] t63, AV.int IntKind.i64 t64, AV.int IntKind.i64 t65] [Blk.dead, Blk.dead, Blk.dead, Blk.dead, Blk.dead, Blk.dead, Blk.var [AV.int IntKind.u8 b16_0, AV.int IntKind.u8 b16_1, AV.int IntKind.i64 b16_2, AV.str b16_3, AV.int IntKind.i64 b16_4, AV.int IntKind.i64 b16_5, AV.bool b16_6, AV.int IntKind.u8 b16_7, AV.int IntKind.u32 b16_8, AV.int IntKind.i64 b16_9, AV.int IntKind.i64 b16_10, AV.sl Tk.imm [Kd.int IntKind.u16, Kd.int IntKind.u32] b16_11], Blk.row [Kd.int IntKind.u8] b17] = bif decide (t65 < t64) then bif decide ((0 : Int) ≤ t65) && decide (t65 < (↑t63.length : Int)) then bif bif decide ((b17.length + (rn45_18_1 t63 t64 t65 b16_0 b16_1 b16_2 b16_3 b16_4 b16_5 b16_6 b16_7 b16_8 b16_9 b16_10 b16_11 b17).length) * (1 : Nat) ≤ (140737488355328 : Nat)) then decide (b17.length + (rn45_18_1 t63 t64 t65 b16_0 b16_1 b16_2 b16_3 b16_4 b16_5 b16_6 b16_7 b16_8 b16_9 b16_10 b16_11 b17).length ≤ (9223372036854775807 : Nat)) else false then bif bif decide (((rn45_18_2 t63 t64 t65 b16_0 b16_1 b16_2 b16_3 b16_4 b16_5 b16_6 b16_7 b16_8 b16_9 b16_10 b16_11 b17).length + (rn45_18_4 t63 t64 t65 b16_0 b16_1 b16_2 b16_3 b16_4 b16_5 b16_6 b16_7 b16_8 b16_9 b16_10 b16_11 b17).length) * (1 : Nat) ≤ (140737488355328 : Nat)) then decide ((rn45_18_2 t63 t64 t65 b16_0 b16_1 b16_2 b16_3 b16_4 b16_5 b16_6 b16_7 b16_8 b16_9 b16_10 b16_11 b17).length + (rn45_18_4 t63 t64 t65 b16_0 b16_1 b16_2 b16_3 b16_4 b16_5 b16_6 b16_7 b16_8 b16_9 b16_10 b16_11 b17).length ≤ (9223372036854775807 : Nat)) else false then some (Ex.norm, [AV.hp (nat_lit 16) (nat_lit 0), AV.rf (nat_lit 17) [Kd.int IntKind.u8], AV.sl Tk.imm [Kd.int IntKind.u16, Kd.int IntKind.u32] t63, AV.int IntKind.i64 t64, AV.int IntKind.i64 (IntKind.i64.wrap (t65 + (1 : Int)))], [Blk.dead, Blk.dead, Blk.dead, Blk.dead, Blk.dead, Blk.dead, Blk.var [AV.int IntKind.u8 b16_0, AV.int IntKind.u8 b16_1, AV.int IntKind.i64 b16_2, AV.str b16_3, AV.int IntKind.i64 b16_4, AV.int IntKind.i64 b16_5, AV.bool b16_6, AV.int IntKind.u8 b16_7, AV.int IntKind.u32 b16_8, AV.int IntKind.i64 b16_9, AV.int IntKind.i64 b16_10, AV.sl Tk.imm [Kd.int IntKind.u16, Kd.int IntKind.u32] b16_11], Blk.row [Kd.int IntKind.u8] (rn45_18_2 t63 t64 t65 b16_0 b16_1 b16_2 b16_3 b16_4 b16_5 b16_6 b16_7 b16_8 b16_9 b16_10 b16_11 b17 ++ rn45_18_4 t63 t64 t65 b16_0 b16_1 b16_2 b16_3 b16_4 b16_5 b16_6 b16_7 b16_8 b16_9 b16_10 b16_11 b17)]) else none else none else none else some (Ex.exit (nat_lit 6), [AV.hp (nat_lit 16) (nat_lit 0), AV.rf (nat_lit 17) [Kd.int IntKind.u8]], [Blk.dead, Blk.dead, Blk.dead, Blk.dead, Blk.dead, Blk.dead, Blk.var [AV.int IntKind.u8 b16_0, AV.int IntKind.u8 b16_1, AV.int IntKind.i64 b16_2, AV.str b16_3, AV.int IntKind.i64 b16_4, AV.int IntKind.i64 b16_5, AV.bool b16_6, AV.int IntKind.u8 b16_7, AV.int IntKind.u32 b16_8, AV.int IntKind.i64 b16_9, AV.int IntKind.i64 b16_10, AV.sl Tk.imm [Kd.int IntKind.u16, Kd.int IntKind.u32] b16_11], Blk.row [Kd.int IntKind.u8] b17]) := by kernel_rfl
  rw [h]
  clear h
  unfold go45_18 nx45_18_2 nx45_18_15 xc45_18_0
  generalize (decide (((rn45_18_2 t63 t64 t65 b16_0 b16_1 b16_2 b16_3 b16_4 b16_5 b16_6 b16_7 b16_8 b16_9 b16_10 b16_11 b17).length + (rn45_18_4 t63 t64 t65 b16_0 b16_1 b16_2 b16_3 b16_4 b16_5 b16_6 b16_7 b16_8 b16_9 b16_10 b16_11 b17).length) * (1 : Nat) ≤ (140737488355328 : Nat))) = c0
  generalize (decide ((rn45_18_2 t63 t64 t65 b16_0 b16_1 b16_2 b16_3 b16_4 b16_5 b16_6 b16_7 b16_8 b16_9 b16_10 b16_11 b17).length + (rn45_18_4 t63 t64 t65 b16_0 b16_1 b16_2 b16_3 b16_4 b16_5 b16_6 b16_7 b16_8 b16_9 b16_10 b16_11 b17).length ≤ (9223372036854775807 : Nat))) = c1
  generalize (decide ((b17.length + (rn45_18_1 t63 t64 t65 b16_0 b16_1 b16_2 b16_3 b16_4 b16_5 b16_6 b16_7 b16_8 b16_9 b16_10 b16_11 b17).length) * (1 : Nat) ≤ (140737488355328 : Nat))) = c2
  generalize (decide (b17.length + (rn45_18_1 t63 t64 t65 b16_0 b16_1 b16_2 b16_3 b16_4 b16_5 b16_6 b16_7 b16_8 b16_9 b16_10 b16_11 b17).length ≤ (9223372036854775807 : Nat))) = c3
  generalize (decide ((0 : Int) ≤ t65) && decide (t65 < (↑t63.length : Int))) = c4
  generalize (decide (t65 < t64)) = c5
  cases c5
  · skip
    rfl
  · skip
    cases c4
    · skip
      rfl
    · skip
      cases c2
      · skip
        rfl
      · skip
        cases c3
        · skip
          rfl
        · skip
          cases c0
          · skip
            rfl
          · skip
            cases c1
            · skip
              rfl
            · skip
              rfl
abbrev pl45_18 : Type := (List (List AV)) × Int × Int × Int × Int × (List UInt8) × Int × Int × Bool × Int × Int × Int × Int × (List (List AV))
abbrev sl45_18 : Type := Int × (List (List AV))
noncomputable def vt45_18 (a : pl45_18 × sl45_18) : List AV := [AV.hp (nat_lit 16) (nat_lit 0), AV.rf (nat_lit 17) [Kd.int IntKind.u8], AV.sl Tk.imm [Kd.int IntKind.u16, Kd.int IntKind.u32] a.1.1, AV.int IntKind.i64 a.1.2.1, AV.int IntKind.i64 a.2.1]
noncomputable def vc45_18 (a : pl45_18 × sl45_18) : List Blk := [Blk.dead, Blk.dead, Blk.dead, Blk.dead, Blk.dead, Blk.dead, Blk.var [AV.int IntKind.u8 a.1.2.2.1, AV.int IntKind.u8 a.1.2.2.2.1, AV.int IntKind.i64 a.1.2.2.2.2.1, AV.str a.1.2.2.2.2.2.1, AV.int IntKind.i64 a.1.2.2.2.2.2.2.1, AV.int IntKind.i64 a.1.2.2.2.2.2.2.2.1, AV.bool a.1.2.2.2.2.2.2.2.2.1, AV.int IntKind.u8 a.1.2.2.2.2.2.2.2.2.2.1, AV.int IntKind.u32 a.1.2.2.2.2.2.2.2.2.2.2.1, AV.int IntKind.i64 a.1.2.2.2.2.2.2.2.2.2.2.2.1, AV.int IntKind.i64 a.1.2.2.2.2.2.2.2.2.2.2.2.2.1, AV.sl Tk.imm [Kd.int IntKind.u16, Kd.int IntKind.u32] a.1.2.2.2.2.2.2.2.2.2.2.2.2.2], Blk.row [Kd.int IntKind.u8] a.2.2]
noncomputable def de45_18 (vt : List AV) (vc : List Blk) : Option (pl45_18 × sl45_18) :=
  match vt with
  | [qa0, qa1, qa2, qa3, qa4] => (match vc with
  | [qb0, qb1, qb2, qb3, qb4, qb5, qb6, qb7] => (match qa0 with
  | AV.hp (16) (0) => (match qa1 with
  | AV.rf (17) [Kd.int IntKind.u8] => (match qa2 with
  | AV.sl Tk.imm [Kd.int IntKind.u16, Kd.int IntKind.u32] t63 => (match qa3 with
  | AV.int IntKind.i64 t64 => (match qa4 with
  | AV.int IntKind.i64 t65 => (match qb0 with
  | Blk.dead => (match qb1 with
  | Blk.dead => (match qb2 with
  | Blk.dead => (match qb3 with
  | Blk.dead => (match qb4 with
  | Blk.dead => (match qb5 with
  | Blk.dead => (match qb6 with
  | Blk.var [AV.int IntKind.u8 b16_0, AV.int IntKind.u8 b16_1, AV.int IntKind.i64 b16_2, AV.str b16_3, AV.int IntKind.i64 b16_4, AV.int IntKind.i64 b16_5, AV.bool b16_6, AV.int IntKind.u8 b16_7, AV.int IntKind.u32 b16_8, AV.int IntKind.i64 b16_9, AV.int IntKind.i64 b16_10, AV.sl Tk.imm [Kd.int IntKind.u16, Kd.int IntKind.u32] b16_11] => (match qb7 with
  | Blk.row [Kd.int IntKind.u8] b17 => (some ((t63, t64, b16_0, b16_1, b16_2, b16_3, b16_4, b16_5, b16_6, b16_7, b16_8, b16_9, b16_10, b16_11), (t65, b17)))
  | _ => none)
  | _ => none)
  | _ => none)
  | _ => none)
  | _ => none)
  | _ => none)
  | _ => none)
  | _ => none)
  | _ => none)
  | _ => none)
  | _ => none)
  | _ => none)
  | _ => none)
  | _ => none)
  | _ => none
theorem de45_18_ok (vt : List AV) (vc : List Blk) (a : pl45_18 × sl45_18) (h : de45_18 vt vc = some a) : vt = vt45_18 a ∧ vc = vc45_18 a := by
  unfold de45_18 at h
  split at h
  rotate_left
  · cases h
  split at h
  rotate_left
  · cases h
  split at h
  rotate_left
  · cases h
  split at h
  rotate_left
  · cases h
  split at h
  rotate_left
  · cases h
  split at h
  rotate_left
  · cases h
  split at h
  rotate_left
  · cases h
  split at h
  rotate_left
  · cases h
  split at h
  rotate_left
  · cases h
  split at h
  rotate_left
  · cases h
  split at h
  rotate_left
  · cases h
  split at h
  rotate_left
  · cases h
  split at h
  rotate_left
  · cases h
  split at h
  rotate_left
  · cases h
  split at h
  rotate_left
  · cases h
  injection h with h
  subst h
  exact ⟨rfl, rfl⟩
noncomputable def g45_18 (p : pl45_18) (s : sl45_18) : Bool := go45_18 p.1 p.2.1 s.1 p.2.2.1 p.2.2.2.1 p.2.2.2.2.1 p.2.2.2.2.2.1 p.2.2.2.2.2.2.1 p.2.2.2.2.2.2.2.1 p.2.2.2.2.2.2.2.2.1 p.2.2.2.2.2.2.2.2.2.1 p.2.2.2.2.2.2.2.2.2.2.1 p.2.2.2.2.2.2.2.2.2.2.2.1 p.2.2.2.2.2.2.2.2.2.2.2.2.1 p.2.2.2.2.2.2.2.2.2.2.2.2.2 s.2
noncomputable def n45_18 (p : pl45_18) (s : sl45_18) : sl45_18 := (nx45_18_2 p.1 p.2.1 s.1 p.2.2.1 p.2.2.2.1 p.2.2.2.2.1 p.2.2.2.2.2.1 p.2.2.2.2.2.2.1 p.2.2.2.2.2.2.2.1 p.2.2.2.2.2.2.2.2.1 p.2.2.2.2.2.2.2.2.2.1 p.2.2.2.2.2.2.2.2.2.2.1 p.2.2.2.2.2.2.2.2.2.2.2.1 p.2.2.2.2.2.2.2.2.2.2.2.2.1 p.2.2.2.2.2.2.2.2.2.2.2.2.2 s.2, nx45_18_15 p.1 p.2.1 s.1 p.2.2.1 p.2.2.2.1 p.2.2.2.2.1 p.2.2.2.2.2.1 p.2.2.2.2.2.2.1 p.2.2.2.2.2.2.2.1 p.2.2.2.2.2.2.2.2.1 p.2.2.2.2.2.2.2.2.2.1 p.2.2.2.2.2.2.2.2.2.2.1 p.2.2.2.2.2.2.2.2.2.2.2.1 p.2.2.2.2.2.2.2.2.2.2.2.2.1 p.2.2.2.2.2.2.2.2.2.2.2.2.2 s.2)
noncomputable def y45_18 (p : pl45_18) (s : sl45_18) : List (Bool × Out) := []
noncomputable def z45_18 (p : pl45_18) (s : sl45_18) : Bool := xc45_18_0 p.1 p.2.1 s.1 p.2.2.1 p.2.2.2.1 p.2.2.2.2.1 p.2.2.2.2.2.1 p.2.2.2.2.2.2.1 p.2.2.2.2.2.2.2.1 p.2.2.2.2.2.2.2.2.1 p.2.2.2.2.2.2.2.2.2.1 p.2.2.2.2.2.2.2.2.2.2.1 p.2.2.2.2.2.2.2.2.2.2.2.1 p.2.2.2.2.2.2.2.2.2.2.2.2.1 p.2.2.2.2.2.2.2.2.2.2.2.2.2 s.2
noncomputable def d45_18 (p : pl45_18) (s : sl45_18) : Out := (Ex.exit (nat_lit 6), [AV.hp (nat_lit 16) (nat_lit 0), AV.rf (nat_lit 17) [Kd.int IntKind.u8]], [Blk.dead, Blk.dead, Blk.dead, Blk.dead, Blk.dead, Blk.dead, Blk.var [AV.int IntKind.u8 p.2.2.1, AV.int IntKind.u8 p.2.2.2.1, AV.int IntKind.i64 p.2.2.2.2.1, AV.str p.2.2.2.2.2.1, AV.int IntKind.i64 p.2.2.2.2.2.2.1, AV.int IntKind.i64 p.2.2.2.2.2.2.2.1, AV.bool p.2.2.2.2.2.2.2.2.1, AV.int IntKind.u8 p.2.2.2.2.2.2.2.2.2.1, AV.int IntKind.u32 p.2.2.2.2.2.2.2.2.2.2.1, AV.int IntKind.i64 p.2.2.2.2.2.2.2.2.2.2.2.1, AV.int IntKind.i64 p.2.2.2.2.2.2.2.2.2.2.2.2.1, AV.sl Tk.imm [Kd.int IntKind.u16, Kd.int IntKind.u32] p.2.2.2.2.2.2.2.2.2.2.2.2.2], Blk.row [Kd.int IntKind.u8] s.2])
noncomputable def ls45_18 : St → Option (Bool × List (Bool × Ex × St) × Ex × St) := lspOf [1, 3, 63, 64, 65] [4, 7, 9, 11, 13, 15, 16, 17] [1, 3] [4, 7, 9, 11, 13, 15, 16, 17] Try.f45.ntmps (0 + tab.nid 45) de45_18 (spI g45_18 n45_18 y45_18 z45_18 d45_18)
theorem lo45_18 (rest : Lsp) : LoopOK1 (cfg Try.prog tab 100000 (gk k66 30) (selL 18 ls45_18 rest) 45 0 Try.f45.ntmps) (loopAt Try.f45 18) := LoopOK1.iter (i := 18) (by kernel_rfl) [1, 3, 63, 64, 65] [4, 7, 9, 11, 13, 15, 16, 17] [1, 3] [4, 7, 9, 11, 13, 15, 16, 17] vt45_18 vc45_18 de45_18 g45_18 n45_18 y45_18 z45_18 d45_18 (fun _ => rfl) de45_18_ok (fun p s => rd45_18 (selL 18 ls45_18 rest) (p.1) (p.2.1) (s.1) (p.2.2.1) (p.2.2.2.1) (p.2.2.2.2.1) (p.2.2.2.2.2.1) (p.2.2.2.2.2.2.1) (p.2.2.2.2.2.2.2.1) (p.2.2.2.2.2.2.2.2.1) (p.2.2.2.2.2.2.2.2.2.1) (p.2.2.2.2.2.2.2.2.2.2.1) (p.2.2.2.2.2.2.2.2.2.2.2.1) (p.2.2.2.2.2.2.2.2.2.2.2.2.1) (p.2.2.2.2.2.2.2.2.2.2.2.2.2) (s.2)) (fun _ _ => rfl)
noncomputable def lsp45 : Lsp := (selL 18 ls45_18 noLsp)
theorem loops45 : ∀ c, Try.f45.body = some c → LoopsOK (cfg Try.prog tab 100000 (gk k66 30) lsp45 45 0 Try.f45.ntmps) c := loops_of [18] (by kernel_rfl) (by kernel_rfl) (fun i hi => by
  simp only [List.mem_cons, List.not_mem_nil, or_false] at hi
  subst hi
  · exact lo45_18 noLsp)
noncomputable def rev45_0 (t : Int) (g : Int) (n : Int) (d : List UInt8) (pa : Int) (de : Int) (so : Bool) (we : Int) (co : Int) (la : Int) (inc : Int) (ps : List (List AV)) : List (List AV) := [[AV.int IntKind.u8 (vev66_0 co)], [AV.int IntKind.u8 (vev66_1 co)], [AV.int IntKind.u8 (vev66_2 co)], [AV.int IntKind.u8 (IntKind.u8.wrap co)]]
noncomputable def rev45_1 (t : Int) (g : Int) (n : Int) (d : List UInt8) (pa : Int) (de : Int) (so : Bool) (we : Int) (co : Int) (la : Int) (inc : Int) (ps : List (List AV)) : List (List AV) := [AV.int IntKind.u8 (vev66_0 (IntKind.u32.wrap la))] :: [AV.int IntKind.u8 (vev66_1 (IntKind.u32.wrap la))] :: [AV.int IntKind.u8 (vev66_2 (IntKind.u32.wrap la))] :: [AV.int IntKind.u8 (IntKind.u8.wrap (IntKind.u32.wrap la))] :: rev45_0 t g n d pa de so we co la inc ps
noncomputable def rev45_2 (t : Int) (g : Int) (n : Int) (d : List UInt8) (pa : Int) (de : Int) (so : Bool) (we : Int) (co : Int) (la : Int) (inc : Int) (ps : List (List AV)) : List (List AV) := [AV.int IntKind.u8 (vev66_1 (IntKind.u32.wrap de))] :: [AV.int IntKind.u8 (vev66_2 (IntKind.u32.wrap de))] :: [AV.int IntKind.u8 (IntKind.u8.wrap (IntKind.u32.wrap de))] :: [AV.int IntKind.u8 we] :: rev45_1 t g n d pa de so we co la inc ps
noncomputable def rev45_3 (t : Int) (g : Int) (n : Int) (d : List UInt8) (pa : Int) (de : Int) (so : Bool) (we : Int) (co : Int) (la : Int) (inc : Int) (ps : List (List AV)) : List (List AV) := [AV.int IntKind.u8 (bits BinOp.or IntKind.u8 (intOf (([[AV.int IntKind.u8 (vev66_0 (IntKind.u32.wrap de))], [AV.int IntKind.u8 (vev66_1 (IntKind.u32.wrap de))], [AV.int IntKind.u8 (vev66_2 (IntKind.u32.wrap de))], [AV.int IntKind.u8 (IntKind.u8.wrap (IntKind.u32.wrap de))]].getD (Int.toNat (0 : Int)) []).getD (0 : Nat) AV.junk)) (128 : Int))] :: rev45_2 t g n d pa de so we co la inc ps
noncomputable def rev45_4 (t : Int) (g : Int) (n : Int) (d : List UInt8) (pa : Int) (de : Int) (so : Bool) (we : Int) (co : Int) (la : Int) (inc : Int) (ps : List (List AV)) : List (List AV) := [AV.int IntKind.u8 (vev66_0 co)] :: [AV.int IntKind.u8 (vev66_1 co)] :: [AV.int IntKind.u8 (vev66_2 co)] :: [AV.int IntKind.u8 (IntKind.u8.wrap co)] :: List.map ofB d
noncomputable def rev45_5 (t : Int) (g : Int) (n : Int) (d : List UInt8) (pa : Int) (de : Int) (so : Bool) (we : Int) (co : Int) (la : Int) (inc : Int) (ps : List (List AV)) : List (List AV) := [AV.int IntKind.u8 (vev66_0 (IntKind.u32.wrap la))] :: [AV.int IntKind.u8 (vev66_1 (IntKind.u32.wrap la))] :: [AV.int IntKind.u8 (vev66_2 (IntKind.u32.wrap la))] :: [AV.int IntKind.u8 (IntKind.u8.wrap (IntKind.u32.wrap la))] :: rev45_4 t g n d pa de so we co la inc ps
noncomputable def rev45_6 (t : Int) (g : Int) (n : Int) (d : List UInt8) (pa : Int) (de : Int) (so : Bool) (we : Int) (co : Int) (la : Int) (inc : Int) (ps : List (List AV)) : List (List AV) := [AV.int IntKind.u8 (vev66_1 (IntKind.u32.wrap de))] :: [AV.int IntKind.u8 (vev66_2 (IntKind.u32.wrap de))] :: [AV.int IntKind.u8 (IntKind.u8.wrap (IntKind.u32.wrap de))] :: [AV.int IntKind.u8 we] :: rev45_5 t g n d pa de so we co la inc ps
noncomputable def rev45_7 (t : Int) (g : Int) (n : Int) (d : List UInt8) (pa : Int) (de : Int) (so : Bool) (we : Int) (co : Int) (la : Int) (inc : Int) (ps : List (List AV)) : List (List AV) := [AV.int IntKind.u8 (bits BinOp.or IntKind.u8 (intOf (([[AV.int IntKind.u8 (vev66_0 (IntKind.u32.wrap de))], [AV.int IntKind.u8 (vev66_1 (IntKind.u32.wrap de))], [AV.int IntKind.u8 (vev66_2 (IntKind.u32.wrap de))], [AV.int IntKind.u8 (IntKind.u8.wrap (IntKind.u32.wrap de))]].getD (Int.toNat (0 : Int)) []).getD (0 : Nat) AV.junk)) (128 : Int))] :: rev45_6 t g n d pa de so we co la inc ps
noncomputable def rev45_8 (t : Int) (g : Int) (n : Int) (d : List UInt8) (pa : Int) (de : Int) (so : Bool) (we : Int) (co : Int) (la : Int) (inc : Int) (ps : List (List AV)) : List (List AV) := List.map ofB (List.replicate pa.toNat (0 : UInt8))
noncomputable def rev45_9 (t : Int) (g : Int) (n : Int) (d : List UInt8) (pa : Int) (de : Int) (so : Bool) (we : Int) (co : Int) (la : Int) (inc : Int) (ps : List (List AV)) : List (List AV) := List.map ofB d ++ rev45_8 t g n d pa de so we co la inc ps
noncomputable def rev45_10 (t : Int) (g : Int) (n : Int) (d : List UInt8) (pa : Int) (de : Int) (so : Bool) (we : Int) (co : Int) (la : Int) (inc : Int) (ps : List (List AV)) : List (List AV) := [AV.int IntKind.u8 (vev66_0 co)] :: [AV.int IntKind.u8 (vev66_1 co)] :: [AV.int IntKind.u8 (vev66_2 co)] :: [AV.int IntKind.u8 (IntKind.u8.wrap co)] :: rev45_9 t g n d pa de so we co la inc ps
noncomputable def rev45_11 (t : Int) (g : Int) (n : Int) (d : List UInt8) (pa : Int) (de : Int) (so : Bool) (we : Int) (co : Int) (la : Int) (inc : Int) (ps : List (List AV)) : List (List AV) := [AV.int IntKind.u8 (vev66_0 (IntKind.u32.wrap la))] :: [AV.int IntKind.u8 (vev66_1 (IntKind.u32.wrap la))] :: [AV.int IntKind.u8 (vev66_2 (IntKind.u32.wrap la))] :: [AV.int IntKind.u8 (IntKind.u8.wrap (IntKind.u32.wrap la))] :: rev45_10 t g n d pa de so we co la inc ps
noncomputable def rev45_12 (t : Int) (g : Int) (n : Int) (d : List UInt8) (pa : Int) (de : Int) (so : Bool) (we : Int) (co : Int) (la : Int) (inc : Int) (ps : List (List AV)) : List (List AV) := [AV.int IntKind.u8 (vev66_1 (IntKind.u32.wrap de))] :: [AV.int IntKind.u8 (vev66_2 (IntKind.u32.wrap de))] :: [AV.int IntKind.u8 (IntKind.u8.wrap (IntKind.u32.wrap de))] :: [AV.int IntKind.u8 we] :: rev45_11 t g n d pa de so we co la inc ps
noncomputable def rev45_13 (t : Int) (g : Int) (n : Int) (d : List UInt8) (pa : Int) (de : Int) (so : Bool) (we : Int) (co : Int) (la : Int) (inc : Int) (ps : List (List AV)) : List (List AV) := [AV.int IntKind.u8 (bits BinOp.or IntKind.u8 (intOf (([[AV.int IntKind.u8 (vev66_0 (IntKind.u32.wrap de))], [AV.int IntKind.u8 (vev66_1 (IntKind.u32.wrap de))], [AV.int IntKind.u8 (vev66_2 (IntKind.u32.wrap de))], [AV.int IntKind.u8 (IntKind.u8.wrap (IntKind.u32.wrap de))]].getD (Int.toNat (0 : Int)) []).getD (0 : Nat) AV.junk)) (128 : Int))] :: rev45_12 t g n d pa de so we co la inc ps
noncomputable def rev45_14 (t : Int) (g : Int) (n : Int) (d : List UInt8) (pa : Int) (de : Int) (so : Bool) (we : Int) (co : Int) (la : Int) (inc : Int) (ps : List (List AV)) : List (List AV) := [AV.int IntKind.u8 (vev66_1 (IntKind.u32.wrap de))] :: [AV.int IntKind.u8 (vev66_2 (IntKind.u32.wrap de))] :: [AV.int IntKind.u8 (IntKind.u8.wrap (IntKind.u32.wrap de))] :: [AV.int IntKind.u8 we] :: rev45_0 t g n d pa de so we co la inc ps
noncomputable def rev45_15 (t : Int) (g : Int) (n : Int) (d : List UInt8) (pa : Int) (de : Int) (so : Bool) (we : Int) (co : Int) (la : Int) (inc : Int) (ps : List (List AV)) : List (List AV) := [AV.int IntKind.u8 (bits BinOp.or IntKind.u8 (intOf (([[AV.int IntKind.u8 (vev66_0 (IntKind.u32.wrap de))], [AV.int IntKind.u8 (vev66_1 (IntKind.u32.wrap de))], [AV.int IntKind.u8 (vev66_2 (IntKind.u32.wrap de))], [AV.int IntKind.u8 (IntKind.u8.wrap (IntKind.u32.wrap de))]].getD (Int.toNat (0 : Int)) []).getD (0 : Nat) AV.junk)) (128 : Int))] :: rev45_14 t g n d pa de so we co la inc ps
noncomputable def rev45_16 (t : Int) (g : Int) (n : Int) (d : List UInt8) (pa : Int) (de : Int) (so : Bool) (we : Int) (co : Int) (la : Int) (inc : Int) (ps : List (List AV)) : List (List AV) := [AV.int IntKind.u8 (vev66_1 (IntKind.u32.wrap de))] :: [AV.int IntKind.u8 (vev66_2 (IntKind.u32.wrap de))] :: [AV.int IntKind.u8 (IntKind.u8.wrap (IntKind.u32.wrap de))] :: [AV.int IntKind.u8 we] :: rev45_4 t g n d pa de so we co la inc ps
noncomputable def rev45_17 (t : Int) (g : Int) (n : Int) (d : List UInt8) (pa : Int) (de : Int) (so : Bool) (we : Int) (co : Int) (la : Int) (inc : Int) (ps : List (List AV)) : List (List AV) := [AV.int IntKind.u8 (bits BinOp.or IntKind.u8 (intOf (([[AV.int IntKind.u8 (vev66_0 (IntKind.u32.wrap de))], [AV.int IntKind.u8 (vev66_1 (IntKind.u32.wrap de))], [AV.int IntKind.u8 (vev66_2 (IntKind.u32.wrap de))], [AV.int IntKind.u8 (IntKind.u8.wrap (IntKind.u32.wrap de))]].getD (Int.toNat (0 : Int)) []).getD (0 : Nat) AV.junk)) (128 : Int))] :: rev45_16 t g n d pa de so we co la inc ps
noncomputable def rev45_18 (t : Int) (g : Int) (n : Int) (d : List UInt8) (pa : Int) (de : Int) (so : Bool) (we : Int) (co : Int) (la : Int) (inc : Int) (ps : List (List AV)) : List (List AV) := [AV.int IntKind.u8 (vev66_1 (IntKind.u32.wrap de))] :: [AV.int IntKind.u8 (vev66_2 (IntKind.u32.wrap de))] :: [AV.int IntKind.u8 (IntKind.u8.wrap (IntKind.u32.wrap de))] :: [AV.int IntKind.u8 we] :: rev45_10 t g n d pa de so we co la inc ps
noncomputable def rev45_19 (t : Int) (g : Int) (n : Int) (d : List UInt8) (pa : Int) (de : Int) (so : Bool) (we : Int) (co : Int) (la : Int) (inc : Int) (ps : List (List AV)) : List (List AV) := [AV.int IntKind.u8 (bits BinOp.or IntKind.u8 (intOf (([[AV.int IntKind.u8 (vev66_0 (IntKind.u32.wrap de))], [AV.int IntKind.u8 (vev66_1 (IntKind.u32.wrap de))], [AV.int IntKind.u8 (vev66_2 (IntKind.u32.wrap de))], [AV.int IntKind.u8 (IntKind.u8.wrap (IntKind.u32.wrap de))]].getD (Int.toNat (0 : Int)) []).getD (0 : Nat) AV.junk)) (128 : Int))] :: rev45_18 t g n d pa de so we co la inc ps
noncomputable def rev45_20 (t : Int) (g : Int) (n : Int) (d : List UInt8) (pa : Int) (de : Int) (so : Bool) (we : Int) (co : Int) (la : Int) (inc : Int) (ps : List (List AV)) : List (List AV) := [[AV.int IntKind.u8 (vev66_0 (IntKind.u32.wrap inc))], [AV.int IntKind.u8 (vev66_1 (IntKind.u32.wrap inc))], [AV.int IntKind.u8 (vev66_2 (IntKind.u32.wrap inc))], [AV.int IntKind.u8 (IntKind.u8.wrap (IntKind.u32.wrap inc))]]
noncomputable def rev45_21 (t : Int) (g : Int) (n : Int) (d : List UInt8) (pa : Int) (de : Int) (so : Bool) (we : Int) (co : Int) (la : Int) (inc : Int) (ps : List (List AV)) : List (List AV) := [AV.int IntKind.u8 (vev66_1 (IntKind.u32.wrap de))] :: [AV.int IntKind.u8 (vev66_2 (IntKind.u32.wrap de))] :: [AV.int IntKind.u8 (IntKind.u8.wrap (IntKind.u32.wrap de))] :: [AV.int IntKind.u8 we] :: rev45_20 t g n d pa de so we co la inc ps
noncomputable def rev45_22 (t : Int) (g : Int) (n : Int) (d : List UInt8) (pa : Int) (de : Int) (so : Bool) (we : Int) (co : Int) (la : Int) (inc : Int) (ps : List (List AV)) : List (List AV) := [AV.int IntKind.u8 (bits BinOp.or IntKind.u8 (intOf (([[AV.int IntKind.u8 (vev66_0 (IntKind.u32.wrap de))], [AV.int IntKind.u8 (vev66_1 (IntKind.u32.wrap de))], [AV.int IntKind.u8 (vev66_2 (IntKind.u32.wrap de))], [AV.int IntKind.u8 (IntKind.u8.wrap (IntKind.u32.wrap de))]].getD (Int.toNat (0 : Int)) []).getD (0 : Nat) AV.junk)) (128 : Int))] :: rev45_21 t g n d pa de so we co la inc ps
noncomputable def rev45_23 (t : Int) (g : Int) (n : Int) (d : List UInt8) (pa : Int) (de : Int) (so : Bool) (we : Int) (co : Int) (la : Int) (inc : Int) (ps : List (List AV)) : List (List AV) := [AV.int IntKind.u8 (vev66_0 (IntKind.u32.wrap inc))] :: [AV.int IntKind.u8 (vev66_1 (IntKind.u32.wrap inc))] :: [AV.int IntKind.u8 (vev66_2 (IntKind.u32.wrap inc))] :: [AV.int IntKind.u8 (IntKind.u8.wrap (IntKind.u32.wrap inc))] :: List.map ofB d
noncomputable def rev45_24 (t : Int) (g : Int) (n : Int) (d : List UInt8) (pa : Int) (de : Int) (so : Bool) (we : Int) (co : Int) (la : Int) (inc : Int) (ps : List (List AV)) : List (List AV) := [AV.int IntKind.u8 (vev66_1 (IntKind.u32.wrap de))] :: [AV.int IntKind.u8 (vev66_2 (IntKind.u32.wrap de))] :: [AV.int IntKind.u8 (IntKind.u8.wrap (IntKind.u32.wrap de))] :: [AV.int IntKind.u8 we] :: rev45_23 t g n d pa de so we co la inc ps
noncomputable def rev45_25 (t : Int) (g : Int) (n : Int) (d : List UInt8) (pa : Int) (de : Int) (so : Bool) (we : Int) (co : Int) (la : Int) (inc : Int) (ps : List (List AV)) : List (List AV) := [AV.int IntKind.u8 (bits BinOp.or IntKind.u8 (intOf (([[AV.int IntKind.u8 (vev66_0 (IntKind.u32.wrap de))], [AV.int IntKind.u8 (vev66_1 (IntKind.u32.wrap de))], [AV.int IntKind.u8 (vev66_2 (IntKind.u32.wrap de))], [AV.int IntKind.u8 (IntKind.u8.wrap (IntKind.u32.wrap de))]].getD (Int.toNat (0 : Int)) []).getD (0 : Nat) AV.junk)) (128 : Int))] :: rev45_24 t g n d pa de so we co la inc ps
noncomputable def rev45_26 (t : Int) (g : Int) (n : Int) (d : List UInt8) (pa : Int) (de : Int) (so : Bool) (we : Int) (co : Int) (la : Int) (inc : Int) (ps : List (List AV)) : List (List AV) := [AV.int IntKind.u8 (vev66_0 (IntKind.u32.wrap inc))] :: [AV.int IntKind.u8 (vev66_1 (IntKind.u32.wrap inc))] :: [AV.int IntKind.u8 (vev66_2 (IntKind.u32.wrap inc))] :: [AV.int IntKind.u8 (IntKind.u8.wrap (IntKind.u32.wrap inc))] :: rev45_9 t g n d pa de so we co la inc ps
noncomputable def rev45_27 (t : Int) (g : Int) (n : Int) (d : List UInt8) (pa : Int) (de : Int) (so : Bool) (we : Int) (co : Int) (la : Int) (inc : Int) (ps : List (List AV)) : List (List AV) := [AV.int IntKind.u8 (vev66_1 (IntKind.u32.wrap de))] :: [AV.int IntKind.u8 (vev66_2 (IntKind.u32.wrap de))] :: [AV.int IntKind.u8 (IntKind.u8.wrap (IntKind.u32.wrap de))] :: [AV.int IntKind.u8 we] :: rev45_26 t g n d pa de so we co la inc ps
noncomputable def rev45_28 (t : Int) (g : Int) (n : Int) (d : List UInt8) (pa : Int) (de : Int) (so : Bool) (we : Int) (co : Int) (la : Int) (inc : Int) (ps : List (List AV)) : List (List AV) := [AV.int IntKind.u8 (bits BinOp.or IntKind.u8 (intOf (([[AV.int IntKind.u8 (vev66_0 (IntKind.u32.wrap de))], [AV.int IntKind.u8 (vev66_1 (IntKind.u32.wrap de))], [AV.int IntKind.u8 (vev66_2 (IntKind.u32.wrap de))], [AV.int IntKind.u8 (IntKind.u8.wrap (IntKind.u32.wrap de))]].getD (Int.toNat (0 : Int)) []).getD (0 : Nat) AV.junk)) (128 : Int))] :: rev45_27 t g n d pa de so we co la inc ps
noncomputable def rev45_29 (t : Int) (g : Int) (n : Int) (d : List UInt8) (pa : Int) (de : Int) (so : Bool) (we : Int) (co : Int) (la : Int) (inc : Int) (ps : List (List AV)) : List (List AV) := [[AV.int IntKind.u8 (vev66_1 (IntKind.u32.wrap de))], [AV.int IntKind.u8 (vev66_2 (IntKind.u32.wrap de))], [AV.int IntKind.u8 (IntKind.u8.wrap (IntKind.u32.wrap de))], [AV.int IntKind.u8 we]]
noncomputable def rev45_30 (t : Int) (g : Int) (n : Int) (d : List UInt8) (pa : Int) (de : Int) (so : Bool) (we : Int) (co : Int) (la : Int) (inc : Int) (ps : List (List AV)) : List (List AV) := [AV.int IntKind.u8 (bits BinOp.or IntKind.u8 (intOf (([[AV.int IntKind.u8 (vev66_0 (IntKind.u32.wrap de))], [AV.int IntKind.u8 (vev66_1 (IntKind.u32.wrap de))], [AV.int IntKind.u8 (vev66_2 (IntKind.u32.wrap de))], [AV.int IntKind.u8 (IntKind.u8.wrap (IntKind.u32.wrap de))]].getD (Int.toNat (0 : Int)) []).getD (0 : Nat) AV.junk)) (128 : Int))] :: rev45_29 t g n d pa de so we co la inc ps
noncomputable def rev45_31 (t : Int) (g : Int) (n : Int) (d : List UInt8) (pa : Int) (de : Int) (so : Bool) (we : Int) (co : Int) (la : Int) (inc : Int) (ps : List (List AV)) : List (List AV) := [AV.int IntKind.u8 (IntKind.u8.wrap pa)] :: rev45_30 t g n d pa de so we co la inc ps
noncomputable def rev45_32 (t : Int) (g : Int) (n : Int) (d : List UInt8) (pa : Int) (de : Int) (so : Bool) (we : Int) (co : Int) (la : Int) (inc : Int) (ps : List (List AV)) : sl45_18 := finL (g45_18 (ps, (↑ps.length : Int), t, g, n, d, pa, de, so, we, co, la, inc, ps)) (n45_18 (ps, (↑ps.length : Int), t, g, n, d, pa, de, so, we, co, la, inc, ps)) ((0 : Int), rev45_31 t g n d pa de so we co la inc ps)
noncomputable def rev45_33 (t : Int) (g : Int) (n : Int) (d : List UInt8) (pa : Int) (de : Int) (so : Bool) (we : Int) (co : Int) (la : Int) (inc : Int) (ps : List (List AV)) : List (List AV) := (rev45_32 t g n d pa de so we co la inc ps).snd
noncomputable def rev45_34 (t : Int) (g : Int) (n : Int) (d : List UInt8) (pa : Int) (de : Int) (so : Bool) (we : Int) (co : Int) (la : Int) (inc : Int) (ps : List (List AV)) : List (List AV) := rev45_33 t g n d pa de so we co la inc ps ++ List.map ofB d
noncomputable def rev45_35 (t : Int) (g : Int) (n : Int) (d : List UInt8) (pa : Int) (de : Int) (so : Bool) (we : Int) (co : Int) (la : Int) (inc : Int) (ps : List (List AV)) : List (List AV) := [AV.int IntKind.u8 (vev66_1 (IntKind.u32.wrap de))] :: [AV.int IntKind.u8 (vev66_2 (IntKind.u32.wrap de))] :: [AV.int IntKind.u8 (IntKind.u8.wrap (IntKind.u32.wrap de))] :: [AV.int IntKind.u8 we] :: List.map ofB d
noncomputable def rev45_36 (t : Int) (g : Int) (n : Int) (d : List UInt8) (pa : Int) (de : Int) (so : Bool) (we : Int) (co : Int) (la : Int) (inc : Int) (ps : List (List AV)) : List (List AV) := [AV.int IntKind.u8 (bits BinOp.or IntKind.u8 (intOf (([[AV.int IntKind.u8 (vev66_0 (IntKind.u32.wrap de))], [AV.int IntKind.u8 (vev66_1 (IntKind.u32.wrap de))], [AV.int IntKind.u8 (vev66_2 (IntKind.u32.wrap de))], [AV.int IntKind.u8 (IntKind.u8.wrap (IntKind.u32.wrap de))]].getD (Int.toNat (0 : Int)) []).getD (0 : Nat) AV.junk)) (128 : Int))] :: rev45_35 t g n d pa de so we co la inc ps
noncomputable def rev45_37 (t : Int) (g : Int) (n : Int) (d : List UInt8) (pa : Int) (de : Int) (so : Bool) (we : Int) (co : Int) (la : Int) (inc : Int) (ps : List (List AV)) : List (List AV) := [AV.int IntKind.u8 (vev66_1 (IntKind.u32.wrap de))] :: [AV.int IntKind.u8 (vev66_2 (IntKind.u32.wrap de))] :: [AV.int IntKind.u8 (IntKind.u8.wrap (IntKind.u32.wrap de))] :: [AV.int IntKind.u8 we] :: rev45_9 t g n d pa de so we co la inc ps
noncomputable def rev45_38 (t : Int) (g : Int) (n : Int) (d : List UInt8) (pa : Int) (de : Int) (so : Bool) (we : Int) (co : Int) (la : Int) (inc : Int) (ps : List (List AV)) : List (List AV) := [AV.int IntKind.u8 (bits BinOp.or IntKind.u8 (intOf (([[AV.int IntKind.u8 (vev66_0 (IntKind.u32.wrap de))], [AV.int IntKind.u8 (vev66_1 (IntKind.u32.wrap de))], [AV.int IntKind.u8 (vev66_2 (IntKind.u32.wrap de))], [AV.int IntKind.u8 (IntKind.u8.wrap (IntKind.u32.wrap de))]].getD (Int.toNat (0 : Int)) []).getD (0 : Nat) AV.junk)) (128 : Int))] :: rev45_37 t g n d pa de so we co la inc ps
noncomputable def rev45_39 (t : Int) (g : Int) (n : Int) (d : List UInt8) (pa : Int) (de : Int) (so : Bool) (we : Int) (co : Int) (la : Int) (inc : Int) (ps : List (List AV)) : List (List AV) := [AV.int IntKind.u8 (vev66_0 (IntKind.u32.wrap de))] :: rev45_2 t g n d pa de so we co la inc ps
noncomputable def rev45_40 (t : Int) (g : Int) (n : Int) (d : List UInt8) (pa : Int) (de : Int) (so : Bool) (we : Int) (co : Int) (la : Int) (inc : Int) (ps : List (List AV)) : List (List AV) := [AV.int IntKind.u8 (vev66_0 (IntKind.u32.wrap de))] :: rev45_6 t g n d pa de so we co la inc ps
noncomputable def rev45_41 (t : Int) (g : Int) (n : Int) (d : List UInt8) (pa : Int) (de : Int) (so : Bool) (we : Int) (co : Int) (la : Int) (inc : Int) (ps : List (List AV)) : List (List AV) := [AV.int IntKind.u8 (vev66_0 (IntKind.u32.wrap de))] :: rev45_12 t g n d pa de so we co la inc ps
noncomputable def rev45_42 (t : Int) (g : Int) (n : Int) (d : List UInt8) (pa : Int) (de : Int) (so : Bool) (we : Int) (co : Int) (la : Int) (inc : Int) (ps : List (List AV)) : List (List AV) := [AV.int IntKind.u8 (vev66_0 (IntKind.u32.wrap de))] :: rev45_14 t g n d pa de so we co la inc ps
noncomputable def rev45_43 (t : Int) (g : Int) (n : Int) (d : List UInt8) (pa : Int) (de : Int) (so : Bool) (we : Int) (co : Int) (la : Int) (inc : Int) (ps : List (List AV)) : List (List AV) := [AV.int IntKind.u8 (vev66_0 (IntKind.u32.wrap de))] :: rev45_16 t g n d pa de so we co la inc ps
noncomputable def rev45_44 (t : Int) (g : Int) (n : Int) (d : List UInt8) (pa : Int) (de : Int) (so : Bool) (we : Int) (co : Int) (la : Int) (inc : Int) (ps : List (List AV)) : List (List AV) := [AV.int IntKind.u8 (vev66_0 (IntKind.u32.wrap de))] :: rev45_18 t g n d pa de so we co la inc ps
noncomputable def rev45_45 (t : Int) (g : Int) (n : Int) (d : List UInt8) (pa : Int) (de : Int) (so : Bool) (we : Int) (co : Int) (la : Int) (inc : Int) (ps : List (List AV)) : List (List AV) := [AV.int IntKind.u8 (vev66_0 (IntKind.u32.wrap de))] :: rev45_21 t g n d pa de so we co la inc ps
noncomputable def rev45_46 (t : Int) (g : Int) (n : Int) (d : List UInt8) (pa : Int) (de : Int) (so : Bool) (we : Int) (co : Int) (la : Int) (inc : Int) (ps : List (List AV)) : List (List AV) := [AV.int IntKind.u8 (vev66_0 (IntKind.u32.wrap de))] :: rev45_24 t g n d pa de so we co la inc ps
noncomputable def rev45_47 (t : Int) (g : Int) (n : Int) (d : List UInt8) (pa : Int) (de : Int) (so : Bool) (we : Int) (co : Int) (la : Int) (inc : Int) (ps : List (List AV)) : List (List AV) := [AV.int IntKind.u8 (vev66_0 (IntKind.u32.wrap de))] :: rev45_27 t g n d pa de so we co la inc ps
noncomputable def rev45_48 (t : Int) (g : Int) (n : Int) (d : List UInt8) (pa : Int) (de : Int) (so : Bool) (we : Int) (co : Int) (la : Int) (inc : Int) (ps : List (List AV)) : List (List AV) := [AV.int IntKind.u8 (vev66_0 (IntKind.u32.wrap de))] :: rev45_29 t g n d pa de so we co la inc ps
noncomputable def rev45_49 (t : Int) (g : Int) (n : Int) (d : List UInt8) (pa : Int) (de : Int) (so : Bool) (we : Int) (co : Int) (la : Int) (inc : Int) (ps : List (List AV)) : List (List AV) := [AV.int IntKind.u8 (IntKind.u8.wrap pa)] :: rev45_48 t g n d pa de so we co la inc ps
noncomputable def rev45_50 (t : Int) (g : Int) (n : Int) (d : List UInt8) (pa : Int) (de : Int) (so : Bool) (we : Int) (co : Int) (la : Int) (inc : Int) (ps : List (List AV)) : sl45_18 := finL (g45_18 (ps, (↑ps.length : Int), t, g, n, d, pa, de, so, we, co, la, inc, ps)) (n45_18 (ps, (↑ps.length : Int), t, g, n, d, pa, de, so, we, co, la, inc, ps)) ((0 : Int), rev45_49 t g n d pa de so we co la inc ps)
noncomputable def rev45_51 (t : Int) (g : Int) (n : Int) (d : List UInt8) (pa : Int) (de : Int) (so : Bool) (we : Int) (co : Int) (la : Int) (inc : Int) (ps : List (List AV)) : List (List AV) := (rev45_50 t g n d pa de so we co la inc ps).snd
noncomputable def rev45_52 (t : Int) (g : Int) (n : Int) (d : List UInt8) (pa : Int) (de : Int) (so : Bool) (we : Int) (co : Int) (la : Int) (inc : Int) (ps : List (List AV)) : List (List AV) := rev45_51 t g n d pa de so we co la inc ps ++ List.map ofB d
noncomputable def rev45_53 (t : Int) (g : Int) (n : Int) (d : List UInt8) (pa : Int) (de : Int) (so : Bool) (we : Int) (co : Int) (la : Int) (inc : Int) (ps : List (List AV)) : List (List AV) := [AV.int IntKind.u8 (vev66_0 (IntKind.u32.wrap de))] :: rev45_35 t g n d pa de so we co la inc ps
noncomputable def rev45_54 (t : Int) (g : Int) (n : Int) (d : List UInt8) (pa : Int) (de : Int) (so : Bool) (we : Int) (co : Int) (la : Int) (inc : Int) (ps : List (List AV)) : List (List AV) := [AV.int IntKind.u8 (vev66_0 (IntKind.u32.wrap de))] :: rev45_37 t g n d pa de so we co la inc ps
noncomputable def rev45_55 (t : Int) (g : Int) (n : Int) (d : List UInt8) (pa : Int) (de : Int) (so : Bool) (we : Int) (co : Int) (la : Int) (inc : Int) (ps : List (List AV)) : List (List AV) := [[AV.int IntKind.u8 (IntKind.u8.wrap pa)]]
noncomputable def rev45_56 (t : Int) (g : Int) (n : Int) (d : List UInt8) (pa : Int) (de : Int) (so : Bool) (we : Int) (co : Int) (la : Int) (inc : Int) (ps : List (List AV)) : sl45_18 := finL (g45_18 (ps, (↑ps.length : Int), t, g, n, d, pa, de, so, we, co, la, inc, ps)) (n45_18 (ps, (↑ps.length : Int), t, g, n, d, pa, de, so, we, co, la, inc, ps)) ((0 : Int), rev45_55 t g n d pa de so we co la inc ps)
noncomputable def rev45_57 (t : Int) (g : Int) (n : Int) (d : List UInt8) (pa : Int) (de : Int) (so : Bool) (we : Int) (co : Int) (la : Int) (inc : Int) (ps : List (List AV)) : List (List AV) := (rev45_56 t g n d pa de so we co la inc ps).snd
noncomputable def rev45_58 (t : Int) (g : Int) (n : Int) (d : List UInt8) (pa : Int) (de : Int) (so : Bool) (we : Int) (co : Int) (la : Int) (inc : Int) (ps : List (List AV)) : List (List AV) := rev45_57 t g n d pa de so we co la inc ps ++ List.map ofB d
noncomputable def rev45_59 (t : Int) (g : Int) (n : Int) (d : List UInt8) (pa : Int) (de : Int) (so : Bool) (we : Int) (co : Int) (la : Int) (inc : Int) (ps : List (List AV)) : sl45_18 := finL (g45_18 (ps, (↑ps.length : Int), t, g, n, d, pa, de, so, we, co, la, inc, ps)) (n45_18 (ps, (↑ps.length : Int), t, g, n, d, pa, de, so, we, co, la, inc, ps)) ((0 : Int), rev45_30 t g n d pa de so we co la inc ps)
noncomputable def rev45_60 (t : Int) (g : Int) (n : Int) (d : List UInt8) (pa : Int) (de : Int) (so : Bool) (we : Int) (co : Int) (la : Int) (inc : Int) (ps : List (List AV)) : List (List AV) := (rev45_59 t g n d pa de so we co la inc ps).snd
noncomputable def rev45_61 (t : Int) (g : Int) (n : Int) (d : List UInt8) (pa : Int) (de : Int) (so : Bool) (we : Int) (co : Int) (la : Int) (inc : Int) (ps : List (List AV)) : List (List AV) := rev45_60 t g n d pa de so we co la inc ps ++ List.map ofB d
noncomputable def rev45_62 (t : Int) (g : Int) (n : Int) (d : List UInt8) (pa : Int) (de : Int) (so : Bool) (we : Int) (co : Int) (la : Int) (inc : Int) (ps : List (List AV)) : sl45_18 := finL (g45_18 (ps, (↑ps.length : Int), t, g, n, d, pa, de, so, we, co, la, inc, ps)) (n45_18 (ps, (↑ps.length : Int), t, g, n, d, pa, de, so, we, co, la, inc, ps)) ((0 : Int), rev45_48 t g n d pa de so we co la inc ps)
noncomputable def rev45_63 (t : Int) (g : Int) (n : Int) (d : List UInt8) (pa : Int) (de : Int) (so : Bool) (we : Int) (co : Int) (la : Int) (inc : Int) (ps : List (List AV)) : List (List AV) := (rev45_62 t g n d pa de so we co la inc ps).snd
noncomputable def rev45_64 (t : Int) (g : Int) (n : Int) (d : List UInt8) (pa : Int) (de : Int) (so : Bool) (we : Int) (co : Int) (la : Int) (inc : Int) (ps : List (List AV)) : List (List AV) := rev45_63 t g n d pa de so we co la inc ps ++ List.map ofB d
noncomputable def rev45_65 (t : Int) (g : Int) (n : Int) (d : List UInt8) (pa : Int) (de : Int) (so : Bool) (we : Int) (co : Int) (la : Int) (inc : Int) (ps : List (List AV)) : List (List AV) := [[AV.int IntKind.u8 (vev66_0 (IntKind.u32.wrap la))], [AV.int IntKind.u8 (vev66_1 (IntKind.u32.wrap la))], [AV.int IntKind.u8 (vev66_2 (IntKind.u32.wrap la))], [AV.int IntKind.u8 (IntKind.u8.wrap (IntKind.u32.wrap la))]] ++ rev45_0 t g n d pa de so we co la inc ps
noncomputable def rev45_66 (t : Int) (g : Int) (n : Int) (d : List UInt8) (pa : Int) (de : Int) (so : Bool) (we : Int) (co : Int) (la : Int) (inc : Int) (ps : List (List AV)) : sl45_18 := finL (g45_18 (ps, (↑ps.length : Int), t, g, n, d, pa, de, so, we, co, la, inc, ps)) (n45_18 (ps, (↑ps.length : Int), t, g, n, d, pa, de, so, we, co, la, inc, ps)) ((0 : Int), [])
noncomputable def rev45_67 (t : Int) (g : Int) (n : Int) (d : List UInt8) (pa : Int) (de : Int) (so : Bool) (we : Int) (co : Int) (la : Int) (inc : Int) (ps : List (List AV)) : List (List AV) := (rev45_66 t g n d pa de so we co la inc ps).snd
noncomputable def rev45_68 (t : Int) (g : Int) (n : Int) (d : List UInt8) (pa : Int) (de : Int) (so : Bool) (we : Int) (co : Int) (la : Int) (inc : Int) (ps : List (List AV)) : List (List AV) := rev45_67 t g n d pa de so we co la inc ps ++ List.map ofB d
noncomputable def vev45_0 (t : Int) (g : Int) (n : Int) (d : List UInt8) (pa : Int) (de : Int) (so : Bool) (we : Int) (co : Int) (la : Int) (inc : Int) (ps : List (List AV)) : List (List AV) := bif vev64_0 t g n d pa de so we co la inc ps then bif vev65_0 t g n d pa de so we co la inc ps then bif so then bif t == (7 : Int) then [AV.int IntKind.u8 (IntKind.u8.wrap pa)] :: rev45_13 t g n d pa de so we co la inc ps else bif t == (3 : Int) then [AV.int IntKind.u8 (IntKind.u8.wrap pa)] :: rev45_19 t g n d pa de so we co la inc ps else bif t == (8 : Int) then [AV.int IntKind.u8 (IntKind.u8.wrap pa)] :: rev45_28 t g n d pa de so we co la inc ps else bif t == (4 : Int) then rev45_34 t g n d pa de so we co la inc ps ++ rev45_8 t g n d pa de so we co la inc ps else [AV.int IntKind.u8 (IntKind.u8.wrap pa)] :: rev45_38 t g n d pa de so we co la inc ps else bif t == (7 : Int) then [AV.int IntKind.u8 (IntKind.u8.wrap pa)] :: rev45_41 t g n d pa de so we co la inc ps else bif t == (3 : Int) then [AV.int IntKind.u8 (IntKind.u8.wrap pa)] :: rev45_44 t g n d pa de so we co la inc ps else bif t == (8 : Int) then [AV.int IntKind.u8 (IntKind.u8.wrap pa)] :: rev45_47 t g n d pa de so we co la inc ps else bif t == (4 : Int) then rev45_52 t g n d pa de so we co la inc ps ++ rev45_8 t g n d pa de so we co la inc ps else [AV.int IntKind.u8 (IntKind.u8.wrap pa)] :: rev45_54 t g n d pa de so we co la inc ps else bif t == (7 : Int) then [AV.int IntKind.u8 (IntKind.u8.wrap pa)] :: rev45_11 t g n d pa de so we co la inc ps else bif t == (3 : Int) then [AV.int IntKind.u8 (IntKind.u8.wrap pa)] :: rev45_10 t g n d pa de so we co la inc ps else bif t == (8 : Int) then [AV.int IntKind.u8 (IntKind.u8.wrap pa)] :: rev45_26 t g n d pa de so we co la inc ps else bif t == (4 : Int) then rev45_58 t g n d pa de so we co la inc ps ++ rev45_8 t g n d pa de so we co la inc ps else [AV.int IntKind.u8 (IntKind.u8.wrap pa)] :: rev45_9 t g n d pa de so we co la inc ps else bif vev65_0 t g n d pa de so we co la inc ps then bif so then bif t == (7 : Int) then rev45_13 t g n d pa de so we co la inc ps else bif t == (3 : Int) then rev45_19 t g n d pa de so we co la inc ps else bif t == (8 : Int) then rev45_28 t g n d pa de so we co la inc ps else bif t == (4 : Int) then rev45_61 t g n d pa de so we co la inc ps ++ rev45_8 t g n d pa de so we co la inc ps else rev45_38 t g n d pa de so we co la inc ps else bif t == (7 : Int) then rev45_41 t g n d pa de so we co la inc ps else bif t == (3 : Int) then rev45_44 t g n d pa de so we co la inc ps else bif t == (8 : Int) then rev45_47 t g n d pa de so we co la inc ps else bif t == (4 : Int) then rev45_64 t g n d pa de so we co la inc ps ++ rev45_8 t g n d pa de so we co la inc ps else rev45_54 t g n d pa de so we co la inc ps else bif t == (7 : Int) then rev45_11 t g n d pa de so we co la inc ps else bif t == (3 : Int) then rev45_10 t g n d pa de so we co la inc ps else bif t == (8 : Int) then rev45_26 t g n d pa de so we co la inc ps else bif t == (4 : Int) then rev45_68 t g n d pa de so we co la inc ps ++ rev45_8 t g n d pa de so we co la inc ps else rev45_9 t g n d pa de so we co la inc ps
noncomputable def vev45_1 (t : Int) (g : Int) (n : Int) (d : List UInt8) (pa : Int) (de : Int) (so : Bool) (we : Int) (co : Int) (la : Int) (inc : Int) (ps : List (List AV)) : Bool := bif vev64_0 t g n d pa de so we co la inc ps then bif vev65_0 t g n d pa de so we co la inc ps then bif so then bif t == (7 : Int) then bif bif decide ((([AV.int IntKind.u8 (IntKind.u8.wrap pa)] :: rev45_3 t g n d pa de so we co la inc ps).length + (List.map ofB d).length) * (1 : Nat) ≤ (140737488355328 : Nat)) then decide (([AV.int IntKind.u8 (IntKind.u8.wrap pa)] :: rev45_3 t g n d pa de so we co la inc ps).length + (List.map ofB d).length ≤ (9223372036854775807 : Nat)) else false then bif bif decide ((0 : Int) ≤ pa) then bif decide (pa ≤ (1099511627776 : Int)) then bif decide ((([AV.int IntKind.u8 (IntKind.u8.wrap pa)] :: rev45_7 t g n d pa de so we co la inc ps).length + (rev45_8 t g n d pa de so we co la inc ps).length) * (1 : Nat) ≤ (140737488355328 : Nat)) then decide (([AV.int IntKind.u8 (IntKind.u8.wrap pa)] :: rev45_7 t g n d pa de so we co la inc ps).length + (rev45_8 t g n d pa de so we co la inc ps).length ≤ (9223372036854775807 : Nat)) else false else false else false then true else false else false else bif t == (3 : Int) then bif bif decide ((([AV.int IntKind.u8 (IntKind.u8.wrap pa)] :: rev45_15 t g n d pa de so we co la inc ps).length + (List.map ofB d).length) * (1 : Nat) ≤ (140737488355328 : Nat)) then decide (([AV.int IntKind.u8 (IntKind.u8.wrap pa)] :: rev45_15 t g n d pa de so we co la inc ps).length + (List.map ofB d).length ≤ (9223372036854775807 : Nat)) else false then bif bif decide ((0 : Int) ≤ pa) then bif decide (pa ≤ (1099511627776 : Int)) then bif decide ((([AV.int IntKind.u8 (IntKind.u8.wrap pa)] :: rev45_17 t g n d pa de so we co la inc ps).length + (rev45_8 t g n d pa de so we co la inc ps).length) * (1 : Nat) ≤ (140737488355328 : Nat)) then decide (([AV.int IntKind.u8 (IntKind.u8.wrap pa)] :: rev45_17 t g n d pa de so we co la inc ps).length + (rev45_8 t g n d pa de so we co la inc ps).length ≤ (9223372036854775807 : Nat)) else false else false else false then true else false else false else bif t == (8 : Int) then bif bif decide ((([AV.int IntKind.u8 (IntKind.u8.wrap pa)] :: rev45_22 t g n d pa de so we co la inc ps).length + (List.map ofB d).length) * (1 : Nat) ≤ (140737488355328 : Nat)) then decide (([AV.int IntKind.u8 (IntKind.u8.wrap pa)] :: rev45_22 t g n d pa de so we co la inc ps).length + (List.map ofB d).length ≤ (9223372036854775807 : Nat)) else false then bif bif decide ((0 : Int) ≤ pa) then bif decide (pa ≤ (1099511627776 : Int)) then bif decide ((([AV.int IntKind.u8 (IntKind.u8.wrap pa)] :: rev45_25 t g n d pa de so we co la inc ps).length + (rev45_8 t g n d pa de so we co la inc ps).length) * (1 : Nat) ≤ (140737488355328 : Nat)) then decide (([AV.int IntKind.u8 (IntKind.u8.wrap pa)] :: rev45_25 t g n d pa de so we co la inc ps).length + (rev45_8 t g n d pa de so we co la inc ps).length ≤ (9223372036854775807 : Nat)) else false else false else false then true else false else false else bif t == (4 : Int) then bif (spI g45_18 n45_18 y45_18 z45_18 d45_18 ((ps, (↑ps.length : Int), t, g, n, d, pa, de, so, we, co, la, inc, ps), (0 : Int), rev45_31 t g n d pa de so we co la inc ps)).fst then bif bif decide (((rev45_33 t g n d pa de so we co la inc ps).length + (List.map ofB d).length) * (1 : Nat) ≤ (140737488355328 : Nat)) then decide ((rev45_33 t g n d pa de so we co la inc ps).length + (List.map ofB d).length ≤ (9223372036854775807 : Nat)) else false then bif bif decide ((0 : Int) ≤ pa) then bif decide (pa ≤ (1099511627776 : Int)) then bif decide (((rev45_34 t g n d pa de so we co la inc ps).length + (rev45_8 t g n d pa de so we co la inc ps).length) * (1 : Nat) ≤ (140737488355328 : Nat)) then decide ((rev45_34 t g n d pa de so we co la inc ps).length + (rev45_8 t g n d pa de so we co la inc ps).length ≤ (9223372036854775807 : Nat)) else false else false else false then true else false else false else false else bif bif decide (((rev45_31 t g n d pa de so we co la inc ps).length + (List.map ofB d).length) * (1 : Nat) ≤ (140737488355328 : Nat)) then decide ((rev45_31 t g n d pa de so we co la inc ps).length + (List.map ofB d).length ≤ (9223372036854775807 : Nat)) else false then bif bif decide ((0 : Int) ≤ pa) then bif decide (pa ≤ (1099511627776 : Int)) then bif decide ((([AV.int IntKind.u8 (IntKind.u8.wrap pa)] :: rev45_36 t g n d pa de so we co la inc ps).length + (rev45_8 t g n d pa de so we co la inc ps).length) * (1 : Nat) ≤ (140737488355328 : Nat)) then decide (([AV.int IntKind.u8 (IntKind.u8.wrap pa)] :: rev45_36 t g n d pa de so we co la inc ps).length + (rev45_8 t g n d pa de so we co la inc ps).length ≤ (9223372036854775807 : Nat)) else false else false else false then true else false else false else bif t == (7 : Int) then bif bif decide ((([AV.int IntKind.u8 (IntKind.u8.wrap pa)] :: rev45_39 t g n d pa de so we co la inc ps).length + (List.map ofB d).length) * (1 : Nat) ≤ (140737488355328 : Nat)) then decide (([AV.int IntKind.u8 (IntKind.u8.wrap pa)] :: rev45_39 t g n d pa de so we co la inc ps).length + (List.map ofB d).length ≤ (9223372036854775807 : Nat)) else false then bif bif decide ((0 : Int) ≤ pa) then bif decide (pa ≤ (1099511627776 : Int)) then bif decide ((([AV.int IntKind.u8 (IntKind.u8.wrap pa)] :: rev45_40 t g n d pa de so we co la inc ps).length + (rev45_8 t g n d pa de so we co la inc ps).length) * (1 : Nat) ≤ (140737488355328 : Nat)) then decide (([AV.int IntKind.u8 (IntKind.u8.wrap pa)] :: rev45_40 t g n d pa de so we co la inc ps).length + (rev45_8 t g n d pa de so we co la inc ps).length ≤ (9223372036854775807 : Nat)) else false else false else false then true else false else false else bif t == (3 : Int) then bif bif decide ((([AV.int IntKind.u8 (IntKind.u8.wrap pa)] :: rev45_42 t g n d pa de so we co la inc ps).length + (List.map ofB d).length) * (1 : Nat) ≤ (140737488355328 : Nat)) then decide (([AV.int IntKind.u8 (IntKind.u8.wrap pa)] :: rev45_42 t g n d pa de so we co la inc ps).length + (List.map ofB d).length ≤ (9223372036854775807 : Nat)) else false then bif bif decide ((0 : Int) ≤ pa) then bif decide (pa ≤ (1099511627776 : Int)) then bif decide ((([AV.int IntKind.u8 (IntKind.u8.wrap pa)] :: rev45_43 t g n d pa de so we co la inc ps).length + (rev45_8 t g n d pa de so we co la inc ps).length) * (1 : Nat) ≤ (140737488355328 : Nat)) then decide (([AV.int IntKind.u8 (IntKind.u8.wrap pa)] :: rev45_43 t g n d pa de so we co la inc ps).length + (rev45_8 t g n d pa de so we co la inc ps).length ≤ (9223372036854775807 : Nat)) else false else false else false then true else false else false else bif t == (8 : Int) then bif bif decide ((([AV.int IntKind.u8 (IntKind.u8.wrap pa)] :: rev45_45 t g n d pa de so we co la inc ps).length + (List.map ofB d).length) * (1 : Nat) ≤ (140737488355328 : Nat)) then decide (([AV.int IntKind.u8 (IntKind.u8.wrap pa)] :: rev45_45 t g n d pa de so we co la inc ps).length + (List.map ofB d).length ≤ (9223372036854775807 : Nat)) else false then bif bif decide ((0 : Int) ≤ pa) then bif decide (pa ≤ (1099511627776 : Int)) then bif decide ((([AV.int IntKind.u8 (IntKind.u8.wrap pa)] :: rev45_46 t g n d pa de so we co la inc ps).length + (rev45_8 t g n d pa de so we co la inc ps).length) * (1 : Nat) ≤ (140737488355328 : Nat)) then decide (([AV.int IntKind.u8 (IntKind.u8.wrap pa)] :: rev45_46 t g n d pa de so we co la inc ps).length + (rev45_8 t g n d pa de so we co la inc ps).length ≤ (9223372036854775807 : Nat)) else false else false else false then true else false else false else bif t == (4 : Int) then bif (spI g45_18 n45_18 y45_18 z45_18 d45_18 ((ps, (↑ps.length : Int), t, g, n, d, pa, de, so, we, co, la, inc, ps), (0 : Int), rev45_49 t g n d pa de so we co la inc ps)).fst then bif bif decide (((rev45_51 t g n d pa de so we co la inc ps).length + (List.map ofB d).length) * (1 : Nat) ≤ (140737488355328 : Nat)) then decide ((rev45_51 t g n d pa de so we co la inc ps).length + (List.map ofB d).length ≤ (9223372036854775807 : Nat)) else false then bif bif decide ((0 : Int) ≤ pa) then bif decide (pa ≤ (1099511627776 : Int)) then bif decide (((rev45_52 t g n d pa de so we co la inc ps).length + (rev45_8 t g n d pa de so we co la inc ps).length) * (1 : Nat) ≤ (140737488355328 : Nat)) then decide ((rev45_52 t g n d pa de so we co la inc ps).length + (rev45_8 t g n d pa de so we co la inc ps).length ≤ (9223372036854775807 : Nat)) else false else false else false then true else false else false else false else bif bif decide (((rev45_49 t g n d pa de so we co la inc ps).length + (List.map ofB d).length) * (1 : Nat) ≤ (140737488355328 : Nat)) then decide ((rev45_49 t g n d pa de so we co la inc ps).length + (List.map ofB d).length ≤ (9223372036854775807 : Nat)) else false then bif bif decide ((0 : Int) ≤ pa) then bif decide (pa ≤ (1099511627776 : Int)) then bif decide ((([AV.int IntKind.u8 (IntKind.u8.wrap pa)] :: rev45_53 t g n d pa de so we co la inc ps).length + (rev45_8 t g n d pa de so we co la inc ps).length) * (1 : Nat) ≤ (140737488355328 : Nat)) then decide (([AV.int IntKind.u8 (IntKind.u8.wrap pa)] :: rev45_53 t g n d pa de so we co la inc ps).length + (rev45_8 t g n d pa de so we co la inc ps).length ≤ (9223372036854775807 : Nat)) else false else false else false then true else false else false else bif t == (7 : Int) then bif bif decide ((([AV.int IntKind.u8 (IntKind.u8.wrap pa)] :: rev45_1 t g n d pa de so we co la inc ps).length + (List.map ofB d).length) * (1 : Nat) ≤ (140737488355328 : Nat)) then decide (([AV.int IntKind.u8 (IntKind.u8.wrap pa)] :: rev45_1 t g n d pa de so we co la inc ps).length + (List.map ofB d).length ≤ (9223372036854775807 : Nat)) else false then bif bif decide ((0 : Int) ≤ pa) then bif decide (pa ≤ (1099511627776 : Int)) then bif decide ((([AV.int IntKind.u8 (IntKind.u8.wrap pa)] :: rev45_5 t g n d pa de so we co la inc ps).length + (rev45_8 t g n d pa de so we co la inc ps).length) * (1 : Nat) ≤ (140737488355328 : Nat)) then decide (([AV.int IntKind.u8 (IntKind.u8.wrap pa)] :: rev45_5 t g n d pa de so we co la inc ps).length + (rev45_8 t g n d pa de so we co la inc ps).length ≤ (9223372036854775807 : Nat)) else false else false else false then true else false else false else bif t == (3 : Int) then bif bif decide ((([AV.int IntKind.u8 (IntKind.u8.wrap pa)] :: rev45_0 t g n d pa de so we co la inc ps).length + (List.map ofB d).length) * (1 : Nat) ≤ (140737488355328 : Nat)) then decide (([AV.int IntKind.u8 (IntKind.u8.wrap pa)] :: rev45_0 t g n d pa de so we co la inc ps).length + (List.map ofB d).length ≤ (9223372036854775807 : Nat)) else false then bif bif decide ((0 : Int) ≤ pa) then bif decide (pa ≤ (1099511627776 : Int)) then bif decide ((([AV.int IntKind.u8 (IntKind.u8.wrap pa)] :: rev45_4 t g n d pa de so we co la inc ps).length + (rev45_8 t g n d pa de so we co la inc ps).length) * (1 : Nat) ≤ (140737488355328 : Nat)) then decide (([AV.int IntKind.u8 (IntKind.u8.wrap pa)] :: rev45_4 t g n d pa de so we co la inc ps).length + (rev45_8 t g n d pa de so we co la inc ps).length ≤ (9223372036854775807 : Nat)) else false else false else false then true else false else false else bif t == (8 : Int) then bif bif decide ((([AV.int IntKind.u8 (IntKind.u8.wrap pa)] :: rev45_20 t g n d pa de so we co la inc ps).length + (List.map ofB d).length) * (1 : Nat) ≤ (140737488355328 : Nat)) then decide (([AV.int IntKind.u8 (IntKind.u8.wrap pa)] :: rev45_20 t g n d pa de so we co la inc ps).length + (List.map ofB d).length ≤ (9223372036854775807 : Nat)) else false then bif bif decide ((0 : Int) ≤ pa) then bif decide (pa ≤ (1099511627776 : Int)) then bif decide ((([AV.int IntKind.u8 (IntKind.u8.wrap pa)] :: rev45_23 t g n d pa de so we co la inc ps).length + (rev45_8 t g n d pa de so we co la inc ps).length) * (1 : Nat) ≤ (140737488355328 : Nat)) then decide (([AV.int IntKind.u8 (IntKind.u8.wrap pa)] :: rev45_23 t g n d pa de so we co la inc ps).length + (rev45_8 t g n d pa de so we co la inc ps).length ≤ (9223372036854775807 : Nat)) else false else false else false then true else false else false else bif t == (4 : Int) then bif (spI g45_18 n45_18 y45_18 z45_18 d45_18 ((ps, (↑ps.length : Int), t, g, n, d, pa, de, so, we, co, la, inc, ps), (0 : Int), rev45_55 t g n d pa de so we co la inc ps)).fst then bif bif decide (((rev45_57 t g n d pa de so we co la inc ps).length + (List.map ofB d).length) * (1 : Nat) ≤ (140737488355328 : Nat)) then decide ((rev45_57 t g n d pa de so we co la inc ps).length + (List.map ofB d).length ≤ (9223372036854775807 : Nat)) else false then bif bif decide ((0 : Int) ≤ pa) then bif decide (pa ≤ (1099511627776 : Int)) then bif decide (((rev45_58 t g n d pa de so we co la inc ps).length + (rev45_8 t g n d pa de so we co la inc ps).length) * (1 : Nat) ≤ (140737488355328 : Nat)) then decide ((rev45_58 t g n d pa de so we co la inc ps).length + (rev45_8 t g n d pa de so we co la inc ps).length ≤ (9223372036854775807 : Nat)) else false else false else false then true else false else false else false else bif bif decide (((rev45_55 t g n d pa de so we co la inc ps).length + (List.map ofB d).length) * (1 : Nat) ≤ (140737488355328 : Nat)) then decide ((rev45_55 t g n d pa de so we co la inc ps).length + (List.map ofB d).length ≤ (9223372036854775807 : Nat)) else false then bif bif decide ((0 : Int) ≤ pa) then bif decide (pa ≤ (1099511627776 : Int)) then bif decide ((([AV.int IntKind.u8 (IntKind.u8.wrap pa)] :: List.map ofB d).length + (rev45_8 t g n d pa de so we co la inc ps).length) * (1 : Nat) ≤ (140737488355328 : Nat)) then decide (([AV.int IntKind.u8 (IntKind.u8.wrap pa)] :: List.map ofB d).length + (rev45_8 t g n d pa de so we co la inc ps).length ≤ (9223372036854775807 : Nat)) else false else false else false then true else false else false else bif vev65_0 t g n d pa de so we co la inc ps then bif so then bif t == (7 : Int) then bif bif decide (((rev45_3 t g n d pa de so we co la inc ps).length + (List.map ofB d).length) * (1 : Nat) ≤ (140737488355328 : Nat)) then decide ((rev45_3 t g n d pa de so we co la inc ps).length + (List.map ofB d).length ≤ (9223372036854775807 : Nat)) else false then bif bif decide ((0 : Int) ≤ pa) then bif decide (pa ≤ (1099511627776 : Int)) then bif decide (((rev45_7 t g n d pa de so we co la inc ps).length + (rev45_8 t g n d pa de so we co la inc ps).length) * (1 : Nat) ≤ (140737488355328 : Nat)) then decide ((rev45_7 t g n d pa de so we co la inc ps).length + (rev45_8 t g n d pa de so we co la inc ps).length ≤ (9223372036854775807 : Nat)) else false else false else false then true else false else false else bif t == (3 : Int) then bif bif decide (((rev45_15 t g n d pa de so we co la inc ps).length + (List.map ofB d).length) * (1 : Nat) ≤ (140737488355328 : Nat)) then decide ((rev45_15 t g n d pa de so we co la inc ps).length + (List.map ofB d).length ≤ (9223372036854775807 : Nat)) else false then bif bif decide ((0 : Int) ≤ pa) then bif decide (pa ≤ (1099511627776 : Int)) then bif decide (((rev45_17 t g n d pa de so we co la inc ps).length + (rev45_8 t g n d pa de so we co la inc ps).length) * (1 : Nat) ≤ (140737488355328 : Nat)) then decide ((rev45_17 t g n d pa de so we co la inc ps).length + (rev45_8 t g n d pa de so we co la inc ps).length ≤ (9223372036854775807 : Nat)) else false else false else false then true else false else false else bif t == (8 : Int) then bif bif decide (((rev45_22 t g n d pa de so we co la inc ps).length + (List.map ofB d).length) * (1 : Nat) ≤ (140737488355328 : Nat)) then decide ((rev45_22 t g n d pa de so we co la inc ps).length + (List.map ofB d).length ≤ (9223372036854775807 : Nat)) else false then bif bif decide ((0 : Int) ≤ pa) then bif decide (pa ≤ (1099511627776 : Int)) then bif decide (((rev45_25 t g n d pa de so we co la inc ps).length + (rev45_8 t g n d pa de so we co la inc ps).length) * (1 : Nat) ≤ (140737488355328 : Nat)) then decide ((rev45_25 t g n d pa de so we co la inc ps).length + (rev45_8 t g n d pa de so we co la inc ps).length ≤ (9223372036854775807 : Nat)) else false else false else false then true else false else false else bif t == (4 : Int) then bif (spI g45_18 n45_18 y45_18 z45_18 d45_18 ((ps, (↑ps.length : Int), t, g, n, d, pa, de, so, we, co, la, inc, ps), (0 : Int), rev45_30 t g n d pa de so we co la inc ps)).fst then bif bif decide (((rev45_60 t g n d pa de so we co la inc ps).length + (List.map ofB d).length) * (1 : Nat) ≤ (140737488355328 : Nat)) then decide ((rev45_60 t g n d pa de so we co la inc ps).length + (List.map ofB d).length ≤ (9223372036854775807 : Nat)) else false then bif bif decide ((0 : Int) ≤ pa) then bif decide (pa ≤ (1099511627776 : Int)) then bif decide (((rev45_61 t g n d pa de so we co la inc ps).length + (rev45_8 t g n d pa de so we co la inc ps).length) * (1 : Nat) ≤ (140737488355328 : Nat)) then decide ((rev45_61 t g n d pa de so we co la inc ps).length + (rev45_8 t g n d pa de so we co la inc ps).length ≤ (9223372036854775807 : Nat)) else false else false else false then true else false else false else false else bif bif decide (((rev45_30 t g n d pa de so we co la inc ps).length + (List.map ofB d).length) * (1 : Nat) ≤ (140737488355328 : Nat)) then decide ((rev45_30 t g n d pa de so we co la inc ps).length + (List.map ofB d).length ≤ (9223372036854775807 : Nat)) else false then bif bif decide ((0 : Int) ≤ pa) then bif decide (pa ≤ (1099511627776 : Int)) then bif decide (((rev45_36 t g n d pa de so we co la inc ps).length + (rev45_8 t g n d pa de so we co la inc ps).length) * (1 : Nat) ≤ (140737488355328 : Nat)) then decide ((rev45_36 t g n d pa de so we co la inc ps).length + (rev45_8 t g n d pa de so we co la inc ps).length ≤ (9223372036854775807 : Nat)) else false else false else false then true else false else false else bif t == (7 : Int) then bif bif decide (((rev45_39 t g n d pa de so we co la inc ps).length + (List.map ofB d).length) * (1 : Nat) ≤ (140737488355328 : Nat)) then decide ((rev45_39 t g n d pa de so we co la inc ps).length + (List.map ofB d).length ≤ (9223372036854775807 : Nat)) else false then bif bif decide ((0 : Int) ≤ pa) then bif decide (pa ≤ (1099511627776 : Int)) then bif decide (((rev45_40 t g n d pa de so we co la inc ps).length + (rev45_8 t g n d pa de so we co la inc ps).length) * (1 : Nat) ≤ (140737488355328 : Nat)) then decide ((rev45_40 t g n d pa de so we co la inc ps).length + (rev45_8 t g n d pa de so we co la inc ps).length ≤ (9223372036854775807 : Nat)) else false else false else false then true else false else false else bif t == (3 : Int) then bif bif decide (((rev45_42 t g n d pa de so we co la inc ps).length + (List.map ofB d).length) * (1 : Nat) ≤ (140737488355328 : Nat)) then decide ((rev45_42 t g n d pa de so we co la inc ps).length + (List.map ofB d).length ≤ (9223372036854775807 : Nat)) else false then bif bif decide ((0 : Int) ≤ pa) then bif decide (pa ≤ (1099511627776 : Int)) then bif decide (((rev45_43 t g n d pa de so we co la inc ps).length + (rev45_8 t g n d pa de so we co la inc ps).length) * (1 : Nat) ≤ (140737488355328 : Nat)) then decide ((rev45_43 t g n d pa de so we co la inc ps).length + (rev45_8 t g n d pa de so we co la inc ps).length ≤ (9223372036854775807 : Nat)) else false else false else false then true else false else false else bif t == (8 : Int) then bif bif decide (((rev45_45 t g n d pa de so we co la inc ps).length + (List.map ofB d).length) * (1 : Nat) ≤ (140737488355328 : Nat)) then decide ((rev45_45 t g n d pa de so we co la inc ps).length + (List.map ofB d).length ≤ (9223372036854775807 : Nat)) else false then bif bif decide ((0 : Int) ≤ pa) then bif decide (pa ≤ (1099511627776 : Int)) then bif decide (((rev45_46 t g n d pa de so we co la inc ps).length + (rev45_8 t g n d pa de so we co la inc ps).length) * (1 : Nat) ≤ (140737488355328 : Nat)) then decide ((rev45_46 t g n d pa de so we co la inc ps).length + (rev45_8 t g n d pa de so we co la inc ps).length ≤ (9223372036854775807 : Nat)) else false else false else false then true else false else false else bif t == (4 : Int) then bif (spI g45_18 n45_18 y45_18 z45_18 d45_18 ((ps, (↑ps.length : Int), t, g, n, d, pa, de, so, we, co, la, inc, ps), (0 : Int), rev45_48 t g n d pa de so we co la inc ps)).fst then bif bif decide (((rev45_63 t g n d pa de so we co la inc ps).length + (List.map ofB d).length) * (1 : Nat) ≤ (140737488355328 : Nat)) then decide ((rev45_63 t g n d pa de so we co la inc ps).length + (List.map ofB d).length ≤ (9223372036854775807 : Nat)) else false then bif bif decide ((0 : Int) ≤ pa) then bif decide (pa ≤ (1099511627776 : Int)) then bif decide (((rev45_64 t g n d pa de so we co la inc ps).length + (rev45_8 t g n d pa de so we co la inc ps).length) * (1 : Nat) ≤ (140737488355328 : Nat)) then decide ((rev45_64 t g n d pa de so we co la inc ps).length + (rev45_8 t g n d pa de so we co la inc ps).length ≤ (9223372036854775807 : Nat)) else false else false else false then true else false else false else false else bif bif decide (((rev45_48 t g n d pa de so we co la inc ps).length + (List.map ofB d).length) * (1 : Nat) ≤ (140737488355328 : Nat)) then decide ((rev45_48 t g n d pa de so we co la inc ps).length + (List.map ofB d).length ≤ (9223372036854775807 : Nat)) else false then bif bif decide ((0 : Int) ≤ pa) then bif decide (pa ≤ (1099511627776 : Int)) then bif decide (((rev45_53 t g n d pa de so we co la inc ps).length + (rev45_8 t g n d pa de so we co la inc ps).length) * (1 : Nat) ≤ (140737488355328 : Nat)) then decide ((rev45_53 t g n d pa de so we co la inc ps).length + (rev45_8 t g n d pa de so we co la inc ps).length ≤ (9223372036854775807 : Nat)) else false else false else false then true else false else false else bif t == (7 : Int) then bif bif decide (((rev45_65 t g n d pa de so we co la inc ps).length + (List.map ofB d).length) * (1 : Nat) ≤ (140737488355328 : Nat)) then decide ((rev45_65 t g n d pa de so we co la inc ps).length + (List.map ofB d).length ≤ (9223372036854775807 : Nat)) else false then bif bif decide ((0 : Int) ≤ pa) then bif decide (pa ≤ (1099511627776 : Int)) then bif decide (((rev45_65 t g n d pa de so we co la inc ps ++ List.map ofB d).length + (rev45_8 t g n d pa de so we co la inc ps).length) * (1 : Nat) ≤ (140737488355328 : Nat)) then decide ((rev45_65 t g n d pa de so we co la inc ps ++ List.map ofB d).length + (rev45_8 t g n d pa de so we co la inc ps).length ≤ (9223372036854775807 : Nat)) else false else false else false then true else false else false else bif t == (3 : Int) then bif bif decide (((rev45_0 t g n d pa de so we co la inc ps).length + (List.map ofB d).length) * (1 : Nat) ≤ (140737488355328 : Nat)) then decide ((rev45_0 t g n d pa de so we co la inc ps).length + (List.map ofB d).length ≤ (9223372036854775807 : Nat)) else false then bif bif decide ((0 : Int) ≤ pa) then bif decide (pa ≤ (1099511627776 : Int)) then bif decide (((rev45_0 t g n d pa de so we co la inc ps ++ List.map ofB d).length + (rev45_8 t g n d pa de so we co la inc ps).length) * (1 : Nat) ≤ (140737488355328 : Nat)) then decide ((rev45_0 t g n d pa de so we co la inc ps ++ List.map ofB d).length + (rev45_8 t g n d pa de so we co la inc ps).length ≤ (9223372036854775807 : Nat)) else false else false else false then true else false else false else bif t == (8 : Int) then bif bif decide (((rev45_20 t g n d pa de so we co la inc ps).length + (List.map ofB d).length) * (1 : Nat) ≤ (140737488355328 : Nat)) then decide ((rev45_20 t g n d pa de so we co la inc ps).length + (List.map ofB d).length ≤ (9223372036854775807 : Nat)) else false then bif bif decide ((0 : Int) ≤ pa) then bif decide (pa ≤ (1099511627776 : Int)) then bif decide (((rev45_20 t g n d pa de so we co la inc ps ++ List.map ofB d).length + (rev45_8 t g n d pa de so we co la inc ps).length) * (1 : Nat) ≤ (140737488355328 : Nat)) then decide ((rev45_20 t g n d pa de so we co la inc ps ++ List.map ofB d).length + (rev45_8 t g n d pa de so we co la inc ps).length ≤ (9223372036854775807 : Nat)) else false else false else false then true else false else false else bif t == (4 : Int) then bif (spI g45_18 n45_18 y45_18 z45_18 d45_18 ((ps, (↑ps.length : Int), t, g, n, d, pa, de, so, we, co, la, inc, ps), (0 : Int), [])).fst then bif bif decide (((rev45_67 t g n d pa de so we co la inc ps).length + (List.map ofB d).length) * (1 : Nat) ≤ (140737488355328 : Nat)) then decide ((rev45_67 t g n d pa de so we co la inc ps).length + (List.map ofB d).length ≤ (9223372036854775807 : Nat)) else false then bif bif decide ((0 : Int) ≤ pa) then bif decide (pa ≤ (1099511627776 : Int)) then bif decide (((rev45_68 t g n d pa de so we co la inc ps).length + (rev45_8 t g n d pa de so we co la inc ps).length) * (1 : Nat) ≤ (140737488355328 : Nat)) then decide ((rev45_68 t g n d pa de so we co la inc ps).length + (rev45_8 t g n d pa de so we co la inc ps).length ≤ (9223372036854775807 : Nat)) else false else false else false then true else false else false else false else bif bif decide ((List.map ofB d).length * (1 : Nat) ≤ (140737488355328 : Nat)) then decide ((List.map ofB d).length ≤ (9223372036854775807 : Nat)) else false then bif bif decide ((0 : Int) ≤ pa) then bif decide (pa ≤ (1099511627776 : Int)) then bif decide (((List.map ofB d).length + (rev45_8 t g n d pa de so we co la inc ps).length) * (1 : Nat) ≤ (140737488355328 : Nat)) then decide ((List.map ofB d).length + (rev45_8 t g n d pa de so we co la inc ps).length ≤ (9223372036854775807 : Nat)) else false else false else false then true else false else false
theorem ev45 (t : Int) (g : Int) (n : Int) (d : List UInt8) (pa : Int) (de : Int) (so : Bool) (we : Int) (co : Int) (la : Int) (inc : Int) (ps : List (List AV)) : evFin (cfg Try.prog tab 100000 (gk k66 30) lsp45 45 ([] : List Blk).length Try.f45.ntmps) ([] : List Blk).length Try.f45.resultTypes.toList Try.f45 [.agg [.int .u8 t, .int .u8 g, .int .i64 n, .str d, .int .i64 pa, .int .i64 de, .bool so, .int .u8 we, .int .u32 co, .int .i64 la, .int .i64 inc, .sl .imm [.int .u16, .int .u32] ps]] [] = bif vev45_1 t g n d pa de so we co la inc ps then some (true, AV.sl Tk.imm [Kd.int IntKind.u8] (vev45_0 t g n d pa de so we co la inc ps), []) else none := by
  have h : evFin (cfg Try.prog tab 100000 (gk k66 30) lsp45 45 ([] : List Blk).length Try.f45.ntmps) ([] : List Blk).length Try.f45.resultTypes.toList Try.f45 [.agg [.int .u8 t, .int .u8 g, .int .i64 n, .str d, .int .i64 pa, .int .i64 de, .bool so, .int .u8 we, .int .u32 co, .int .i64 la, .int .i64 inc, .sl .imm [.int .u16, .int .u32] ps]] [] = bif vev64_0 t g n d pa de so we co la inc ps then bif vev65_0 t g n d pa de so we co la inc ps then bif so then bif t == (7 : Int) then bif bif decide ((([AV.int IntKind.u8 (IntKind.u8.wrap pa)] :: rev45_3 t g n d pa de so we co la inc ps).length + (List.map ofB d).length) * (1 : Nat) ≤ (140737488355328 : Nat)) then decide (([AV.int IntKind.u8 (IntKind.u8.wrap pa)] :: rev45_3 t g n d pa de so we co la inc ps).length + (List.map ofB d).length ≤ (9223372036854775807 : Nat)) else false then bif bif decide ((0 : Int) ≤ pa) then bif decide (pa ≤ (1099511627776 : Int)) then bif decide ((([AV.int IntKind.u8 (IntKind.u8.wrap pa)] :: rev45_7 t g n d pa de so we co la inc ps).length + (rev45_8 t g n d pa de so we co la inc ps).length) * (1 : Nat) ≤ (140737488355328 : Nat)) then decide (([AV.int IntKind.u8 (IntKind.u8.wrap pa)] :: rev45_7 t g n d pa de so we co la inc ps).length + (rev45_8 t g n d pa de so we co la inc ps).length ≤ (9223372036854775807 : Nat)) else false else false else false then some (true, AV.sl Tk.imm [Kd.int IntKind.u8] ([AV.int IntKind.u8 (IntKind.u8.wrap pa)] :: rev45_13 t g n d pa de so we co la inc ps), []) else none else none else bif t == (3 : Int) then bif bif decide ((([AV.int IntKind.u8 (IntKind.u8.wrap pa)] :: rev45_15 t g n d pa de so we co la inc ps).length + (List.map ofB d).length) * (1 : Nat) ≤ (140737488355328 : Nat)) then decide (([AV.int IntKind.u8 (IntKind.u8.wrap pa)] :: rev45_15 t g n d pa de so we co la inc ps).length + (List.map ofB d).length ≤ (9223372036854775807 : Nat)) else false then bif bif decide ((0 : Int) ≤ pa) then bif decide (pa ≤ (1099511627776 : Int)) then bif decide ((([AV.int IntKind.u8 (IntKind.u8.wrap pa)] :: rev45_17 t g n d pa de so we co la inc ps).length + (rev45_8 t g n d pa de so we co la inc ps).length) * (1 : Nat) ≤ (140737488355328 : Nat)) then decide (([AV.int IntKind.u8 (IntKind.u8.wrap pa)] :: rev45_17 t g n d pa de so we co la inc ps).length + (rev45_8 t g n d pa de so we co la inc ps).length ≤ (9223372036854775807 : Nat)) else false else false else false then some (true, AV.sl Tk.imm [Kd.int IntKind.u8] ([AV.int IntKind.u8 (IntKind.u8.wrap pa)] :: rev45_19 t g n d pa de so we co la inc ps), []) else none else none else bif t == (8 : Int) then bif bif decide ((([AV.int IntKind.u8 (IntKind.u8.wrap pa)] :: rev45_22 t g n d pa de so we co la inc ps).length + (List.map ofB d).length) * (1 : Nat) ≤ (140737488355328 : Nat)) then decide (([AV.int IntKind.u8 (IntKind.u8.wrap pa)] :: rev45_22 t g n d pa de so we co la inc ps).length + (List.map ofB d).length ≤ (9223372036854775807 : Nat)) else false then bif bif decide ((0 : Int) ≤ pa) then bif decide (pa ≤ (1099511627776 : Int)) then bif decide ((([AV.int IntKind.u8 (IntKind.u8.wrap pa)] :: rev45_25 t g n d pa de so we co la inc ps).length + (rev45_8 t g n d pa de so we co la inc ps).length) * (1 : Nat) ≤ (140737488355328 : Nat)) then decide (([AV.int IntKind.u8 (IntKind.u8.wrap pa)] :: rev45_25 t g n d pa de so we co la inc ps).length + (rev45_8 t g n d pa de so we co la inc ps).length ≤ (9223372036854775807 : Nat)) else false else false else false then some (true, AV.sl Tk.imm [Kd.int IntKind.u8] ([AV.int IntKind.u8 (IntKind.u8.wrap pa)] :: rev45_28 t g n d pa de so we co la inc ps), []) else none else none else bif t == (4 : Int) then bif (spI g45_18 n45_18 y45_18 z45_18 d45_18 ((ps, (↑ps.length : Int), t, g, n, d, pa, de, so, we, co, la, inc, ps), (0 : Int), rev45_31 t g n d pa de so we co la inc ps)).fst then bif bif decide (((rev45_33 t g n d pa de so we co la inc ps).length + (List.map ofB d).length) * (1 : Nat) ≤ (140737488355328 : Nat)) then decide ((rev45_33 t g n d pa de so we co la inc ps).length + (List.map ofB d).length ≤ (9223372036854775807 : Nat)) else false then bif bif decide ((0 : Int) ≤ pa) then bif decide (pa ≤ (1099511627776 : Int)) then bif decide (((rev45_34 t g n d pa de so we co la inc ps).length + (rev45_8 t g n d pa de so we co la inc ps).length) * (1 : Nat) ≤ (140737488355328 : Nat)) then decide ((rev45_34 t g n d pa de so we co la inc ps).length + (rev45_8 t g n d pa de so we co la inc ps).length ≤ (9223372036854775807 : Nat)) else false else false else false then some (true, AV.sl Tk.imm [Kd.int IntKind.u8] (rev45_34 t g n d pa de so we co la inc ps ++ rev45_8 t g n d pa de so we co la inc ps), []) else none else none else none else bif bif decide (((rev45_31 t g n d pa de so we co la inc ps).length + (List.map ofB d).length) * (1 : Nat) ≤ (140737488355328 : Nat)) then decide ((rev45_31 t g n d pa de so we co la inc ps).length + (List.map ofB d).length ≤ (9223372036854775807 : Nat)) else false then bif bif decide ((0 : Int) ≤ pa) then bif decide (pa ≤ (1099511627776 : Int)) then bif decide ((([AV.int IntKind.u8 (IntKind.u8.wrap pa)] :: rev45_36 t g n d pa de so we co la inc ps).length + (rev45_8 t g n d pa de so we co la inc ps).length) * (1 : Nat) ≤ (140737488355328 : Nat)) then decide (([AV.int IntKind.u8 (IntKind.u8.wrap pa)] :: rev45_36 t g n d pa de so we co la inc ps).length + (rev45_8 t g n d pa de so we co la inc ps).length ≤ (9223372036854775807 : Nat)) else false else false else false then some (true, AV.sl Tk.imm [Kd.int IntKind.u8] ([AV.int IntKind.u8 (IntKind.u8.wrap pa)] :: rev45_38 t g n d pa de so we co la inc ps), []) else none else none else bif t == (7 : Int) then bif bif decide ((([AV.int IntKind.u8 (IntKind.u8.wrap pa)] :: rev45_39 t g n d pa de so we co la inc ps).length + (List.map ofB d).length) * (1 : Nat) ≤ (140737488355328 : Nat)) then decide (([AV.int IntKind.u8 (IntKind.u8.wrap pa)] :: rev45_39 t g n d pa de so we co la inc ps).length + (List.map ofB d).length ≤ (9223372036854775807 : Nat)) else false then bif bif decide ((0 : Int) ≤ pa) then bif decide (pa ≤ (1099511627776 : Int)) then bif decide ((([AV.int IntKind.u8 (IntKind.u8.wrap pa)] :: rev45_40 t g n d pa de so we co la inc ps).length + (rev45_8 t g n d pa de so we co la inc ps).length) * (1 : Nat) ≤ (140737488355328 : Nat)) then decide (([AV.int IntKind.u8 (IntKind.u8.wrap pa)] :: rev45_40 t g n d pa de so we co la inc ps).length + (rev45_8 t g n d pa de so we co la inc ps).length ≤ (9223372036854775807 : Nat)) else false else false else false then some (true, AV.sl Tk.imm [Kd.int IntKind.u8] ([AV.int IntKind.u8 (IntKind.u8.wrap pa)] :: rev45_41 t g n d pa de so we co la inc ps), []) else none else none else bif t == (3 : Int) then bif bif decide ((([AV.int IntKind.u8 (IntKind.u8.wrap pa)] :: rev45_42 t g n d pa de so we co la inc ps).length + (List.map ofB d).length) * (1 : Nat) ≤ (140737488355328 : Nat)) then decide (([AV.int IntKind.u8 (IntKind.u8.wrap pa)] :: rev45_42 t g n d pa de so we co la inc ps).length + (List.map ofB d).length ≤ (9223372036854775807 : Nat)) else false then bif bif decide ((0 : Int) ≤ pa) then bif decide (pa ≤ (1099511627776 : Int)) then bif decide ((([AV.int IntKind.u8 (IntKind.u8.wrap pa)] :: rev45_43 t g n d pa de so we co la inc ps).length + (rev45_8 t g n d pa de so we co la inc ps).length) * (1 : Nat) ≤ (140737488355328 : Nat)) then decide (([AV.int IntKind.u8 (IntKind.u8.wrap pa)] :: rev45_43 t g n d pa de so we co la inc ps).length + (rev45_8 t g n d pa de so we co la inc ps).length ≤ (9223372036854775807 : Nat)) else false else false else false then some (true, AV.sl Tk.imm [Kd.int IntKind.u8] ([AV.int IntKind.u8 (IntKind.u8.wrap pa)] :: rev45_44 t g n d pa de so we co la inc ps), []) else none else none else bif t == (8 : Int) then bif bif decide ((([AV.int IntKind.u8 (IntKind.u8.wrap pa)] :: rev45_45 t g n d pa de so we co la inc ps).length + (List.map ofB d).length) * (1 : Nat) ≤ (140737488355328 : Nat)) then decide (([AV.int IntKind.u8 (IntKind.u8.wrap pa)] :: rev45_45 t g n d pa de so we co la inc ps).length + (List.map ofB d).length ≤ (9223372036854775807 : Nat)) else false then bif bif decide ((0 : Int) ≤ pa) then bif decide (pa ≤ (1099511627776 : Int)) then bif decide ((([AV.int IntKind.u8 (IntKind.u8.wrap pa)] :: rev45_46 t g n d pa de so we co la inc ps).length + (rev45_8 t g n d pa de so we co la inc ps).length) * (1 : Nat) ≤ (140737488355328 : Nat)) then decide (([AV.int IntKind.u8 (IntKind.u8.wrap pa)] :: rev45_46 t g n d pa de so we co la inc ps).length + (rev45_8 t g n d pa de so we co la inc ps).length ≤ (9223372036854775807 : Nat)) else false else false else false then some (true, AV.sl Tk.imm [Kd.int IntKind.u8] ([AV.int IntKind.u8 (IntKind.u8.wrap pa)] :: rev45_47 t g n d pa de so we co la inc ps), []) else none else none else bif t == (4 : Int) then bif (spI g45_18 n45_18 y45_18 z45_18 d45_18 ((ps, (↑ps.length : Int), t, g, n, d, pa, de, so, we, co, la, inc, ps), (0 : Int), rev45_49 t g n d pa de so we co la inc ps)).fst then bif bif decide (((rev45_51 t g n d pa de so we co la inc ps).length + (List.map ofB d).length) * (1 : Nat) ≤ (140737488355328 : Nat)) then decide ((rev45_51 t g n d pa de so we co la inc ps).length + (List.map ofB d).length ≤ (9223372036854775807 : Nat)) else false then bif bif decide ((0 : Int) ≤ pa) then bif decide (pa ≤ (1099511627776 : Int)) then bif decide (((rev45_52 t g n d pa de so we co la inc ps).length + (rev45_8 t g n d pa de so we co la inc ps).length) * (1 : Nat) ≤ (140737488355328 : Nat)) then decide ((rev45_52 t g n d pa de so we co la inc ps).length + (rev45_8 t g n d pa de so we co la inc ps).length ≤ (9223372036854775807 : Nat)) else false else false else false then some (true, AV.sl Tk.imm [Kd.int IntKind.u8] (rev45_52 t g n d pa de so we co la inc ps ++ rev45_8 t g n d pa de so we co la inc ps), []) else none else none else none else bif bif decide (((rev45_49 t g n d pa de so we co la inc ps).length + (List.map ofB d).length) * (1 : Nat) ≤ (140737488355328 : Nat)) then decide ((rev45_49 t g n d pa de so we co la inc ps).length + (List.map ofB d).length ≤ (9223372036854775807 : Nat)) else false then bif bif decide ((0 : Int) ≤ pa) then bif decide (pa ≤ (1099511627776 : Int)) then bif decide ((([AV.int IntKind.u8 (IntKind.u8.wrap pa)] :: rev45_53 t g n d pa de so we co la inc ps).length + (rev45_8 t g n d pa de so we co la inc ps).length) * (1 : Nat) ≤ (140737488355328 : Nat)) then decide (([AV.int IntKind.u8 (IntKind.u8.wrap pa)] :: rev45_53 t g n d pa de so we co la inc ps).length + (rev45_8 t g n d pa de so we co la inc ps).length ≤ (9223372036854775807 : Nat)) else false else false else false then some (true, AV.sl Tk.imm [Kd.int IntKind.u8] ([AV.int IntKind.u8 (IntKind.u8.wrap pa)] :: rev45_54 t g n d pa de so we co la inc ps), []) else none else none else bif t == (7 : Int) then bif bif decide ((([AV.int IntKind.u8 (IntKind.u8.wrap pa)] :: rev45_1 t g n d pa de so we co la inc ps).length + (List.map ofB d).length) * (1 : Nat) ≤ (140737488355328 : Nat)) then decide (([AV.int IntKind.u8 (IntKind.u8.wrap pa)] :: rev45_1 t g n d pa de so we co la inc ps).length + (List.map ofB d).length ≤ (9223372036854775807 : Nat)) else false then bif bif decide ((0 : Int) ≤ pa) then bif decide (pa ≤ (1099511627776 : Int)) then bif decide ((([AV.int IntKind.u8 (IntKind.u8.wrap pa)] :: rev45_5 t g n d pa de so we co la inc ps).length + (rev45_8 t g n d pa de so we co la inc ps).length) * (1 : Nat) ≤ (140737488355328 : Nat)) then decide (([AV.int IntKind.u8 (IntKind.u8.wrap pa)] :: rev45_5 t g n d pa de so we co la inc ps).length + (rev45_8 t g n d pa de so we co la inc ps).length ≤ (9223372036854775807 : Nat)) else false else false else false then some (true, AV.sl Tk.imm [Kd.int IntKind.u8] ([AV.int IntKind.u8 (IntKind.u8.wrap pa)] :: rev45_11 t g n d pa de so we co la inc ps), []) else none else none else bif t == (3 : Int) then bif bif decide ((([AV.int IntKind.u8 (IntKind.u8.wrap pa)] :: rev45_0 t g n d pa de so we co la inc ps).length + (List.map ofB d).length) * (1 : Nat) ≤ (140737488355328 : Nat)) then decide (([AV.int IntKind.u8 (IntKind.u8.wrap pa)] :: rev45_0 t g n d pa de so we co la inc ps).length + (List.map ofB d).length ≤ (9223372036854775807 : Nat)) else false then bif bif decide ((0 : Int) ≤ pa) then bif decide (pa ≤ (1099511627776 : Int)) then bif decide ((([AV.int IntKind.u8 (IntKind.u8.wrap pa)] :: rev45_4 t g n d pa de so we co la inc ps).length + (rev45_8 t g n d pa de so we co la inc ps).length) * (1 : Nat) ≤ (140737488355328 : Nat)) then decide (([AV.int IntKind.u8 (IntKind.u8.wrap pa)] :: rev45_4 t g n d pa de so we co la inc ps).length + (rev45_8 t g n d pa de so we co la inc ps).length ≤ (9223372036854775807 : Nat)) else false else false else false then some (true, AV.sl Tk.imm [Kd.int IntKind.u8] ([AV.int IntKind.u8 (IntKind.u8.wrap pa)] :: rev45_10 t g n d pa de so we co la inc ps), []) else none else none else bif t == (8 : Int) then bif bif decide ((([AV.int IntKind.u8 (IntKind.u8.wrap pa)] :: rev45_20 t g n d pa de so we co la inc ps).length + (List.map ofB d).length) * (1 : Nat) ≤ (140737488355328 : Nat)) then decide (([AV.int IntKind.u8 (IntKind.u8.wrap pa)] :: rev45_20 t g n d pa de so we co la inc ps).length + (List.map ofB d).length ≤ (9223372036854775807 : Nat)) else false then bif bif decide ((0 : Int) ≤ pa) then bif decide (pa ≤ (1099511627776 : Int)) then bif decide ((([AV.int IntKind.u8 (IntKind.u8.wrap pa)] :: rev45_23 t g n d pa de so we co la inc ps).length + (rev45_8 t g n d pa de so we co la inc ps).length) * (1 : Nat) ≤ (140737488355328 : Nat)) then decide (([AV.int IntKind.u8 (IntKind.u8.wrap pa)] :: rev45_23 t g n d pa de so we co la inc ps).length + (rev45_8 t g n d pa de so we co la inc ps).length ≤ (9223372036854775807 : Nat)) else false else false else false then some (true, AV.sl Tk.imm [Kd.int IntKind.u8] ([AV.int IntKind.u8 (IntKind.u8.wrap pa)] :: rev45_26 t g n d pa de so we co la inc ps), []) else none else none else bif t == (4 : Int) then bif (spI g45_18 n45_18 y45_18 z45_18 d45_18 ((ps, (↑ps.length : Int), t, g, n, d, pa, de, so, we, co, la, inc, ps), (0 : Int), rev45_55 t g n d pa de so we co la inc ps)).fst then bif bif decide (((rev45_57 t g n d pa de so we co la inc ps).length + (List.map ofB d).length) * (1 : Nat) ≤ (140737488355328 : Nat)) then decide ((rev45_57 t g n d pa de so we co la inc ps).length + (List.map ofB d).length ≤ (9223372036854775807 : Nat)) else false then bif bif decide ((0 : Int) ≤ pa) then bif decide (pa ≤ (1099511627776 : Int)) then bif decide (((rev45_58 t g n d pa de so we co la inc ps).length + (rev45_8 t g n d pa de so we co la inc ps).length) * (1 : Nat) ≤ (140737488355328 : Nat)) then decide ((rev45_58 t g n d pa de so we co la inc ps).length + (rev45_8 t g n d pa de so we co la inc ps).length ≤ (9223372036854775807 : Nat)) else false else false else false then some (true, AV.sl Tk.imm [Kd.int IntKind.u8] (rev45_58 t g n d pa de so we co la inc ps ++ rev45_8 t g n d pa de so we co la inc ps), []) else none else none else none else bif bif decide (((rev45_55 t g n d pa de so we co la inc ps).length + (List.map ofB d).length) * (1 : Nat) ≤ (140737488355328 : Nat)) then decide ((rev45_55 t g n d pa de so we co la inc ps).length + (List.map ofB d).length ≤ (9223372036854775807 : Nat)) else false then bif bif decide ((0 : Int) ≤ pa) then bif decide (pa ≤ (1099511627776 : Int)) then bif decide ((([AV.int IntKind.u8 (IntKind.u8.wrap pa)] :: List.map ofB d).length + (rev45_8 t g n d pa de so we co la inc ps).length) * (1 : Nat) ≤ (140737488355328 : Nat)) then decide (([AV.int IntKind.u8 (IntKind.u8.wrap pa)] :: List.map ofB d).length + (rev45_8 t g n d pa de so we co la inc ps).length ≤ (9223372036854775807 : Nat)) else false else false else false then some (true, AV.sl Tk.imm [Kd.int IntKind.u8] ([AV.int IntKind.u8 (IntKind.u8.wrap pa)] :: rev45_9 t g n d pa de so we co la inc ps), []) else none else none else bif vev65_0 t g n d pa de so we co la inc ps then bif so then bif t == (7 : Int) then bif bif decide (((rev45_3 t g n d pa de so we co la inc ps).length + (List.map ofB d).length) * (1 : Nat) ≤ (140737488355328 : Nat)) then decide ((rev45_3 t g n d pa de so we co la inc ps).length + (List.map ofB d).length ≤ (9223372036854775807 : Nat)) else false then bif bif decide ((0 : Int) ≤ pa) then bif decide (pa ≤ (1099511627776 : Int)) then bif decide (((rev45_7 t g n d pa de so we co la inc ps).length + (rev45_8 t g n d pa de so we co la inc ps).length) * (1 : Nat) ≤ (140737488355328 : Nat)) then decide ((rev45_7 t g n d pa de so we co la inc ps).length + (rev45_8 t g n d pa de so we co la inc ps).length ≤ (9223372036854775807 : Nat)) else false else false else false then some (true, AV.sl Tk.imm [Kd.int IntKind.u8] (rev45_13 t g n d pa de so we co la inc ps), []) else none else none else bif t == (3 : Int) then bif bif decide (((rev45_15 t g n d pa de so we co la inc ps).length + (List.map ofB d).length) * (1 : Nat) ≤ (140737488355328 : Nat)) then decide ((rev45_15 t g n d pa de so we co la inc ps).length + (List.map ofB d).length ≤ (9223372036854775807 : Nat)) else false then bif bif decide ((0 : Int) ≤ pa) then bif decide (pa ≤ (1099511627776 : Int)) then bif decide (((rev45_17 t g n d pa de so we co la inc ps).length + (rev45_8 t g n d pa de so we co la inc ps).length) * (1 : Nat) ≤ (140737488355328 : Nat)) then decide ((rev45_17 t g n d pa de so we co la inc ps).length + (rev45_8 t g n d pa de so we co la inc ps).length ≤ (9223372036854775807 : Nat)) else false else false else false then some (true, AV.sl Tk.imm [Kd.int IntKind.u8] (rev45_19 t g n d pa de so we co la inc ps), []) else none else none else bif t == (8 : Int) then bif bif decide (((rev45_22 t g n d pa de so we co la inc ps).length + (List.map ofB d).length) * (1 : Nat) ≤ (140737488355328 : Nat)) then decide ((rev45_22 t g n d pa de so we co la inc ps).length + (List.map ofB d).length ≤ (9223372036854775807 : Nat)) else false then bif bif decide ((0 : Int) ≤ pa) then bif decide (pa ≤ (1099511627776 : Int)) then bif decide (((rev45_25 t g n d pa de so we co la inc ps).length + (rev45_8 t g n d pa de so we co la inc ps).length) * (1 : Nat) ≤ (140737488355328 : Nat)) then decide ((rev45_25 t g n d pa de so we co la inc ps).length + (rev45_8 t g n d pa de so we co la inc ps).length ≤ (9223372036854775807 : Nat)) else false else false else false then some (true, AV.sl Tk.imm [Kd.int IntKind.u8] (rev45_28 t g n d pa de so we co la inc ps), []) else none else none else bif t == (4 : Int) then bif (spI g45_18 n45_18 y45_18 z45_18 d45_18 ((ps, (↑ps.length : Int), t, g, n, d, pa, de, so, we, co, la, inc, ps), (0 : Int), rev45_30 t g n d pa de so we co la inc ps)).fst then bif bif decide (((rev45_60 t g n d pa de so we co la inc ps).length + (List.map ofB d).length) * (1 : Nat) ≤ (140737488355328 : Nat)) then decide ((rev45_60 t g n d pa de so we co la inc ps).length + (List.map ofB d).length ≤ (9223372036854775807 : Nat)) else false then bif bif decide ((0 : Int) ≤ pa) then bif decide (pa ≤ (1099511627776 : Int)) then bif decide (((rev45_61 t g n d pa de so we co la inc ps).length + (rev45_8 t g n d pa de so we co la inc ps).length) * (1 : Nat) ≤ (140737488355328 : Nat)) then decide ((rev45_61 t g n d pa de so we co la inc ps).length + (rev45_8 t g n d pa de so we co la inc ps).length ≤ (9223372036854775807 : Nat)) else false else false else false then some (true, AV.sl Tk.imm [Kd.int IntKind.u8] (rev45_61 t g n d pa de so we co la inc ps ++ rev45_8 t g n d pa de so we co la inc ps), []) else none else none else none else bif bif decide (((rev45_30 t g n d pa de so we co la inc ps).length + (List.map ofB d).length) * (1 : Nat) ≤ (140737488355328 : Nat)) then decide ((rev45_30 t g n d pa de so we co la inc ps).length + (List.map ofB d).length ≤ (9223372036854775807 : Nat)) else false then bif bif decide ((0 : Int) ≤ pa) then bif decide (pa ≤ (1099511627776 : Int)) then bif decide (((rev45_36 t g n d pa de so we co la inc ps).length + (rev45_8 t g n d pa de so we co la inc ps).length) * (1 : Nat) ≤ (140737488355328 : Nat)) then decide ((rev45_36 t g n d pa de so we co la inc ps).length + (rev45_8 t g n d pa de so we co la inc ps).length ≤ (9223372036854775807 : Nat)) else false else false else false then some (true, AV.sl Tk.imm [Kd.int IntKind.u8] (rev45_38 t g n d pa de so we co la inc ps), []) else none else none else bif t == (7 : Int) then bif bif decide (((rev45_39 t g n d pa de so we co la inc ps).length + (List.map ofB d).length) * (1 : Nat) ≤ (140737488355328 : Nat)) then decide ((rev45_39 t g n d pa de so we co la inc ps).length + (List.map ofB d).length ≤ (9223372036854775807 : Nat)) else false then bif bif decide ((0 : Int) ≤ pa) then bif decide (pa ≤ (1099511627776 : Int)) then bif decide (((rev45_40 t g n d pa de so we co la inc ps).length + (rev45_8 t g n d pa de so we co la inc ps).length) * (1 : Nat) ≤ (140737488355328 : Nat)) then decide ((rev45_40 t g n d pa de so we co la inc ps).length + (rev45_8 t g n d pa de so we co la inc ps).length ≤ (9223372036854775807 : Nat)) else false else false else false then some (true, AV.sl Tk.imm [Kd.int IntKind.u8] (rev45_41 t g n d pa de so we co la inc ps), []) else none else none else bif t == (3 : Int) then bif bif decide (((rev45_42 t g n d pa de so we co la inc ps).length + (List.map ofB d).length) * (1 : Nat) ≤ (140737488355328 : Nat)) then decide ((rev45_42 t g n d pa de so we co la inc ps).length + (List.map ofB d).length ≤ (9223372036854775807 : Nat)) else false then bif bif decide ((0 : Int) ≤ pa) then bif decide (pa ≤ (1099511627776 : Int)) then bif decide (((rev45_43 t g n d pa de so we co la inc ps).length + (rev45_8 t g n d pa de so we co la inc ps).length) * (1 : Nat) ≤ (140737488355328 : Nat)) then decide ((rev45_43 t g n d pa de so we co la inc ps).length + (rev45_8 t g n d pa de so we co la inc ps).length ≤ (9223372036854775807 : Nat)) else false else false else false then some (true, AV.sl Tk.imm [Kd.int IntKind.u8] (rev45_44 t g n d pa de so we co la inc ps), []) else none else none else bif t == (8 : Int) then bif bif decide (((rev45_45 t g n d pa de so we co la inc ps).length + (List.map ofB d).length) * (1 : Nat) ≤ (140737488355328 : Nat)) then decide ((rev45_45 t g n d pa de so we co la inc ps).length + (List.map ofB d).length ≤ (9223372036854775807 : Nat)) else false then bif bif decide ((0 : Int) ≤ pa) then bif decide (pa ≤ (1099511627776 : Int)) then bif decide (((rev45_46 t g n d pa de so we co la inc ps).length + (rev45_8 t g n d pa de so we co la inc ps).length) * (1 : Nat) ≤ (140737488355328 : Nat)) then decide ((rev45_46 t g n d pa de so we co la inc ps).length + (rev45_8 t g n d pa de so we co la inc ps).length ≤ (9223372036854775807 : Nat)) else false else false else false then some (true, AV.sl Tk.imm [Kd.int IntKind.u8] (rev45_47 t g n d pa de so we co la inc ps), []) else none else none else bif t == (4 : Int) then bif (spI g45_18 n45_18 y45_18 z45_18 d45_18 ((ps, (↑ps.length : Int), t, g, n, d, pa, de, so, we, co, la, inc, ps), (0 : Int), rev45_48 t g n d pa de so we co la inc ps)).fst then bif bif decide (((rev45_63 t g n d pa de so we co la inc ps).length + (List.map ofB d).length) * (1 : Nat) ≤ (140737488355328 : Nat)) then decide ((rev45_63 t g n d pa de so we co la inc ps).length + (List.map ofB d).length ≤ (9223372036854775807 : Nat)) else false then bif bif decide ((0 : Int) ≤ pa) then bif decide (pa ≤ (1099511627776 : Int)) then bif decide (((rev45_64 t g n d pa de so we co la inc ps).length + (rev45_8 t g n d pa de so we co la inc ps).length) * (1 : Nat) ≤ (140737488355328 : Nat)) then decide ((rev45_64 t g n d pa de so we co la inc ps).length + (rev45_8 t g n d pa de so we co la inc ps).length ≤ (9223372036854775807 : Nat)) else false else false else false then some (true, AV.sl Tk.imm [Kd.int IntKind.u8] (rev45_64 t g n d pa de so we co la inc ps ++ rev45_8 t g n d pa de so we co la inc ps), []) else none else none else none else bif bif decide (((rev45_48 t g n d pa de so we co la inc ps).length + (List.map ofB d).length) * (1 : Nat) ≤ (140737488355328 : Nat)) then decide ((rev45_48 t g n d pa de so we co la inc ps).length + (List.map ofB d).length ≤ (9223372036854775807 : Nat)) else false then bif bif decide ((0 : Int) ≤ pa) then bif decide (pa ≤ (1099511627776 : Int)) then bif decide (((rev45_53 t g n d pa de so we co la inc ps).length + (rev45_8 t g n d pa de so we co la inc ps).length) * (1 : Nat) ≤ (140737488355328 : Nat)) then decide ((rev45_53 t g n d pa de so we co la inc ps).length + (rev45_8 t g n d pa de so we co la inc ps).length ≤ (9223372036854775807 : Nat)) else false else false else false then some (true, AV.sl Tk.imm [Kd.int IntKind.u8] (rev45_54 t g n d pa de so we co la inc ps), []) else none else none else bif t == (7 : Int) then bif bif decide (((rev45_65 t g n d pa de so we co la inc ps).length + (List.map ofB d).length) * (1 : Nat) ≤ (140737488355328 : Nat)) then decide ((rev45_65 t g n d pa de so we co la inc ps).length + (List.map ofB d).length ≤ (9223372036854775807 : Nat)) else false then bif bif decide ((0 : Int) ≤ pa) then bif decide (pa ≤ (1099511627776 : Int)) then bif decide (((rev45_65 t g n d pa de so we co la inc ps ++ List.map ofB d).length + (rev45_8 t g n d pa de so we co la inc ps).length) * (1 : Nat) ≤ (140737488355328 : Nat)) then decide ((rev45_65 t g n d pa de so we co la inc ps ++ List.map ofB d).length + (rev45_8 t g n d pa de so we co la inc ps).length ≤ (9223372036854775807 : Nat)) else false else false else false then some (true, AV.sl Tk.imm [Kd.int IntKind.u8] (rev45_11 t g n d pa de so we co la inc ps), []) else none else none else bif t == (3 : Int) then bif bif decide (((rev45_0 t g n d pa de so we co la inc ps).length + (List.map ofB d).length) * (1 : Nat) ≤ (140737488355328 : Nat)) then decide ((rev45_0 t g n d pa de so we co la inc ps).length + (List.map ofB d).length ≤ (9223372036854775807 : Nat)) else false then bif bif decide ((0 : Int) ≤ pa) then bif decide (pa ≤ (1099511627776 : Int)) then bif decide (((rev45_0 t g n d pa de so we co la inc ps ++ List.map ofB d).length + (rev45_8 t g n d pa de so we co la inc ps).length) * (1 : Nat) ≤ (140737488355328 : Nat)) then decide ((rev45_0 t g n d pa de so we co la inc ps ++ List.map ofB d).length + (rev45_8 t g n d pa de so we co la inc ps).length ≤ (9223372036854775807 : Nat)) else false else false else false then some (true, AV.sl Tk.imm [Kd.int IntKind.u8] (rev45_10 t g n d pa de so we co la inc ps), []) else none else none else bif t == (8 : Int) then bif bif decide (((rev45_20 t g n d pa de so we co la inc ps).length + (List.map ofB d).length) * (1 : Nat) ≤ (140737488355328 : Nat)) then decide ((rev45_20 t g n d pa de so we co la inc ps).length + (List.map ofB d).length ≤ (9223372036854775807 : Nat)) else false then bif bif decide ((0 : Int) ≤ pa) then bif decide (pa ≤ (1099511627776 : Int)) then bif decide (((rev45_20 t g n d pa de so we co la inc ps ++ List.map ofB d).length + (rev45_8 t g n d pa de so we co la inc ps).length) * (1 : Nat) ≤ (140737488355328 : Nat)) then decide ((rev45_20 t g n d pa de so we co la inc ps ++ List.map ofB d).length + (rev45_8 t g n d pa de so we co la inc ps).length ≤ (9223372036854775807 : Nat)) else false else false else false then some (true, AV.sl Tk.imm [Kd.int IntKind.u8] (rev45_26 t g n d pa de so we co la inc ps), []) else none else none else bif t == (4 : Int) then bif (spI g45_18 n45_18 y45_18 z45_18 d45_18 ((ps, (↑ps.length : Int), t, g, n, d, pa, de, so, we, co, la, inc, ps), (0 : Int), [])).fst then bif bif decide (((rev45_67 t g n d pa de so we co la inc ps).length + (List.map ofB d).length) * (1 : Nat) ≤ (140737488355328 : Nat)) then decide ((rev45_67 t g n d pa de so we co la inc ps).length + (List.map ofB d).length ≤ (9223372036854775807 : Nat)) else false then bif bif decide ((0 : Int) ≤ pa) then bif decide (pa ≤ (1099511627776 : Int)) then bif decide (((rev45_68 t g n d pa de so we co la inc ps).length + (rev45_8 t g n d pa de so we co la inc ps).length) * (1 : Nat) ≤ (140737488355328 : Nat)) then decide ((rev45_68 t g n d pa de so we co la inc ps).length + (rev45_8 t g n d pa de so we co la inc ps).length ≤ (9223372036854775807 : Nat)) else false else false else false then some (true, AV.sl Tk.imm [Kd.int IntKind.u8] (rev45_68 t g n d pa de so we co la inc ps ++ rev45_8 t g n d pa de so we co la inc ps), []) else none else none else none else bif bif decide ((List.map ofB d).length * (1 : Nat) ≤ (140737488355328 : Nat)) then decide ((List.map ofB d).length ≤ (9223372036854775807 : Nat)) else false then bif bif decide ((0 : Int) ≤ pa) then bif decide (pa ≤ (1099511627776 : Int)) then bif decide (((List.map ofB d).length + (rev45_8 t g n d pa de so we co la inc ps).length) * (1 : Nat) ≤ (140737488355328 : Nat)) then decide ((List.map ofB d).length + (rev45_8 t g n d pa de so we co la inc ps).length ≤ (9223372036854775807 : Nat)) else false else false else false then some (true, AV.sl Tk.imm [Kd.int IntKind.u8] (rev45_9 t g n d pa de so we co la inc ps), []) else none else none := by kernel_rfl
  rw [h]
  clear h
  unfold vev45_0 vev45_1
  generalize ((spI g45_18 n45_18 y45_18 z45_18 d45_18 ((ps, (↑ps.length : Int), t, g, n, d, pa, de, so, we, co, la, inc, ps), (0 : Int), rev45_48 t g n d pa de so we co la inc ps)).fst) = c0
  generalize ((spI g45_18 n45_18 y45_18 z45_18 d45_18 ((ps, (↑ps.length : Int), t, g, n, d, pa, de, so, we, co, la, inc, ps), (0 : Int), rev45_55 t g n d pa de so we co la inc ps)).fst) = c1
  generalize ((spI g45_18 n45_18 y45_18 z45_18 d45_18 ((ps, (↑ps.length : Int), t, g, n, d, pa, de, so, we, co, la, inc, ps), (0 : Int), rev45_31 t g n d pa de so we co la inc ps)).fst) = c2
  generalize ((spI g45_18 n45_18 y45_18 z45_18 d45_18 ((ps, (↑ps.length : Int), t, g, n, d, pa, de, so, we, co, la, inc, ps), (0 : Int), rev45_49 t g n d pa de so we co la inc ps)).fst) = c3
  generalize ((spI g45_18 n45_18 y45_18 z45_18 d45_18 ((ps, (↑ps.length : Int), t, g, n, d, pa, de, so, we, co, la, inc, ps), (0 : Int), rev45_30 t g n d pa de so we co la inc ps)).fst) = c4
  generalize ((spI g45_18 n45_18 y45_18 z45_18 d45_18 ((ps, (↑ps.length : Int), t, g, n, d, pa, de, so, we, co, la, inc, ps), (0 : Int), [])).fst) = c5
  generalize (decide (((rev45_0 t g n d pa de so we co la inc ps ++ List.map ofB d).length + (rev45_8 t g n d pa de so we co la inc ps).length) * (1 : Nat) ≤ (140737488355328 : Nat))) = c6
  generalize (decide (((rev45_65 t g n d pa de so we co la inc ps ++ List.map ofB d).length + (rev45_8 t g n d pa de so we co la inc ps).length) * (1 : Nat) ≤ (140737488355328 : Nat))) = c7
  generalize (decide (((rev45_20 t g n d pa de so we co la inc ps ++ List.map ofB d).length + (rev45_8 t g n d pa de so we co la inc ps).length) * (1 : Nat) ≤ (140737488355328 : Nat))) = c8
  generalize (decide ((([AV.int IntKind.u8 (IntKind.u8.wrap pa)] :: rev45_53 t g n d pa de so we co la inc ps).length + (rev45_8 t g n d pa de so we co la inc ps).length) * (1 : Nat) ≤ (140737488355328 : Nat))) = c9
  generalize (decide ((([AV.int IntKind.u8 (IntKind.u8.wrap pa)] :: rev45_23 t g n d pa de so we co la inc ps).length + (rev45_8 t g n d pa de so we co la inc ps).length) * (1 : Nat) ≤ (140737488355328 : Nat))) = c10
  generalize (decide ((([AV.int IntKind.u8 (IntKind.u8.wrap pa)] :: rev45_40 t g n d pa de so we co la inc ps).length + (rev45_8 t g n d pa de so we co la inc ps).length) * (1 : Nat) ≤ (140737488355328 : Nat))) = c11
  generalize (decide ((([AV.int IntKind.u8 (IntKind.u8.wrap pa)] :: rev45_43 t g n d pa de so we co la inc ps).length + (rev45_8 t g n d pa de so we co la inc ps).length) * (1 : Nat) ≤ (140737488355328 : Nat))) = c12
  generalize (decide ((([AV.int IntKind.u8 (IntKind.u8.wrap pa)] :: rev45_46 t g n d pa de so we co la inc ps).length + (rev45_8 t g n d pa de so we co la inc ps).length) * (1 : Nat) ≤ (140737488355328 : Nat))) = c13
  generalize (decide ((([AV.int IntKind.u8 (IntKind.u8.wrap pa)] :: rev45_7 t g n d pa de so we co la inc ps).length + (rev45_8 t g n d pa de so we co la inc ps).length) * (1 : Nat) ≤ (140737488355328 : Nat))) = c14
  generalize (decide ((([AV.int IntKind.u8 (IntKind.u8.wrap pa)] :: rev45_5 t g n d pa de so we co la inc ps).length + (rev45_8 t g n d pa de so we co la inc ps).length) * (1 : Nat) ≤ (140737488355328 : Nat))) = c15
  generalize (decide ((([AV.int IntKind.u8 (IntKind.u8.wrap pa)] :: rev45_4 t g n d pa de so we co la inc ps).length + (rev45_8 t g n d pa de so we co la inc ps).length) * (1 : Nat) ≤ (140737488355328 : Nat))) = c16
  generalize (decide ((([AV.int IntKind.u8 (IntKind.u8.wrap pa)] :: rev45_25 t g n d pa de so we co la inc ps).length + (rev45_8 t g n d pa de so we co la inc ps).length) * (1 : Nat) ≤ (140737488355328 : Nat))) = c17
  generalize (decide ((([AV.int IntKind.u8 (IntKind.u8.wrap pa)] :: rev45_36 t g n d pa de so we co la inc ps).length + (rev45_8 t g n d pa de so we co la inc ps).length) * (1 : Nat) ≤ (140737488355328 : Nat))) = c18
  generalize (decide ((([AV.int IntKind.u8 (IntKind.u8.wrap pa)] :: rev45_17 t g n d pa de so we co la inc ps).length + (rev45_8 t g n d pa de so we co la inc ps).length) * (1 : Nat) ≤ (140737488355328 : Nat))) = c19
  generalize (decide ((rev45_65 t g n d pa de so we co la inc ps ++ List.map ofB d).length + (rev45_8 t g n d pa de so we co la inc ps).length ≤ (9223372036854775807 : Nat))) = c20
  generalize (decide ((rev45_0 t g n d pa de so we co la inc ps ++ List.map ofB d).length + (rev45_8 t g n d pa de so we co la inc ps).length ≤ (9223372036854775807 : Nat))) = c21
  generalize (decide ((rev45_20 t g n d pa de so we co la inc ps ++ List.map ofB d).length + (rev45_8 t g n d pa de so we co la inc ps).length ≤ (9223372036854775807 : Nat))) = c22
  generalize (decide ((([AV.int IntKind.u8 (IntKind.u8.wrap pa)] :: rev45_39 t g n d pa de so we co la inc ps).length + (List.map ofB d).length) * (1 : Nat) ≤ (140737488355328 : Nat))) = c23
  generalize (decide ((([AV.int IntKind.u8 (IntKind.u8.wrap pa)] :: List.map ofB d).length + (rev45_8 t g n d pa de so we co la inc ps).length) * (1 : Nat) ≤ (140737488355328 : Nat))) = c24
  generalize (decide ((([AV.int IntKind.u8 (IntKind.u8.wrap pa)] :: rev45_15 t g n d pa de so we co la inc ps).length + (List.map ofB d).length) * (1 : Nat) ≤ (140737488355328 : Nat))) = c25
  generalize (decide ((([AV.int IntKind.u8 (IntKind.u8.wrap pa)] :: rev45_1 t g n d pa de so we co la inc ps).length + (List.map ofB d).length) * (1 : Nat) ≤ (140737488355328 : Nat))) = c26
  generalize (decide ((([AV.int IntKind.u8 (IntKind.u8.wrap pa)] :: rev45_22 t g n d pa de so we co la inc ps).length + (List.map ofB d).length) * (1 : Nat) ≤ (140737488355328 : Nat))) = c27
  generalize (decide ((([AV.int IntKind.u8 (IntKind.u8.wrap pa)] :: rev45_42 t g n d pa de so we co la inc ps).length + (List.map ofB d).length) * (1 : Nat) ≤ (140737488355328 : Nat))) = c28
  generalize (decide ((([AV.int IntKind.u8 (IntKind.u8.wrap pa)] :: rev45_0 t g n d pa de so we co la inc ps).length + (List.map ofB d).length) * (1 : Nat) ≤ (140737488355328 : Nat))) = c29
  generalize (decide ((([AV.int IntKind.u8 (IntKind.u8.wrap pa)] :: rev45_45 t g n d pa de so we co la inc ps).length + (List.map ofB d).length) * (1 : Nat) ≤ (140737488355328 : Nat))) = c30
  generalize (decide ((([AV.int IntKind.u8 (IntKind.u8.wrap pa)] :: rev45_3 t g n d pa de so we co la inc ps).length + (List.map ofB d).length) * (1 : Nat) ≤ (140737488355328 : Nat))) = c31
  generalize (decide ((([AV.int IntKind.u8 (IntKind.u8.wrap pa)] :: rev45_20 t g n d pa de so we co la inc ps).length + (List.map ofB d).length) * (1 : Nat) ≤ (140737488355328 : Nat))) = c32
  generalize (decide (([AV.int IntKind.u8 (IntKind.u8.wrap pa)] :: rev45_4 t g n d pa de so we co la inc ps).length + (rev45_8 t g n d pa de so we co la inc ps).length ≤ (9223372036854775807 : Nat))) = c33
  generalize (decide (((rev45_36 t g n d pa de so we co la inc ps).length + (rev45_8 t g n d pa de so we co la inc ps).length) * (1 : Nat) ≤ (140737488355328 : Nat))) = c34
  generalize (decide (((rev45_52 t g n d pa de so we co la inc ps).length + (rev45_8 t g n d pa de so we co la inc ps).length) * (1 : Nat) ≤ (140737488355328 : Nat))) = c35
  generalize (decide (([AV.int IntKind.u8 (IntKind.u8.wrap pa)] :: rev45_53 t g n d pa de so we co la inc ps).length + (rev45_8 t g n d pa de so we co la inc ps).length ≤ (9223372036854775807 : Nat))) = c36
  generalize (decide (([AV.int IntKind.u8 (IntKind.u8.wrap pa)] :: rev45_17 t g n d pa de so we co la inc ps).length + (rev45_8 t g n d pa de so we co la inc ps).length ≤ (9223372036854775807 : Nat))) = c37
  generalize (decide (([AV.int IntKind.u8 (IntKind.u8.wrap pa)] :: rev45_36 t g n d pa de so we co la inc ps).length + (rev45_8 t g n d pa de so we co la inc ps).length ≤ (9223372036854775807 : Nat))) = c38
  generalize (decide (([AV.int IntKind.u8 (IntKind.u8.wrap pa)] :: rev45_5 t g n d pa de so we co la inc ps).length + (rev45_8 t g n d pa de so we co la inc ps).length ≤ (9223372036854775807 : Nat))) = c39
  generalize (decide (([AV.int IntKind.u8 (IntKind.u8.wrap pa)] :: rev45_40 t g n d pa de so we co la inc ps).length + (rev45_8 t g n d pa de so we co la inc ps).length ≤ (9223372036854775807 : Nat))) = c40
  generalize (decide (([AV.int IntKind.u8 (IntKind.u8.wrap pa)] :: rev45_23 t g n d pa de so we co la inc ps).length + (rev45_8 t g n d pa de so we co la inc ps).length ≤ (9223372036854775807 : Nat))) = c41
  generalize (decide (((rev45_58 t g n d pa de so we co la inc ps).length + (rev45_8 t g n d pa de so we co la inc ps).length) * (1 : Nat) ≤ (140737488355328 : Nat))) = c42
  generalize (decide (((rev45_7 t g n d pa de so we co la inc ps).length + (rev45_8 t g n d pa de so we co la inc ps).length) * (1 : Nat) ≤ (140737488355328 : Nat))) = c43
  generalize (decide (((rev45_17 t g n d pa de so we co la inc ps).length + (rev45_8 t g n d pa de so we co la inc ps).length) * (1 : Nat) ≤ (140737488355328 : Nat))) = c44
  generalize (decide (((rev45_25 t g n d pa de so we co la inc ps).length + (rev45_8 t g n d pa de so we co la inc ps).length) * (1 : Nat) ≤ (140737488355328 : Nat))) = c45
  generalize (decide (((rev45_61 t g n d pa de so we co la inc ps).length + (rev45_8 t g n d pa de so we co la inc ps).length) * (1 : Nat) ≤ (140737488355328 : Nat))) = c46
  generalize (decide (((rev45_53 t g n d pa de so we co la inc ps).length + (rev45_8 t g n d pa de so we co la inc ps).length) * (1 : Nat) ≤ (140737488355328 : Nat))) = c47
  generalize (decide (((rev45_40 t g n d pa de so we co la inc ps).length + (rev45_8 t g n d pa de so we co la inc ps).length) * (1 : Nat) ≤ (140737488355328 : Nat))) = c48
  generalize (decide (((rev45_43 t g n d pa de so we co la inc ps).length + (rev45_8 t g n d pa de so we co la inc ps).length) * (1 : Nat) ≤ (140737488355328 : Nat))) = c49
  generalize (decide (((rev45_46 t g n d pa de so we co la inc ps).length + (rev45_8 t g n d pa de so we co la inc ps).length) * (1 : Nat) ≤ (140737488355328 : Nat))) = c50
  generalize (decide (([AV.int IntKind.u8 (IntKind.u8.wrap pa)] :: rev45_25 t g n d pa de so we co la inc ps).length + (rev45_8 t g n d pa de so we co la inc ps).length ≤ (9223372036854775807 : Nat))) = c51
  generalize (decide (((rev45_64 t g n d pa de so we co la inc ps).length + (rev45_8 t g n d pa de so we co la inc ps).length) * (1 : Nat) ≤ (140737488355328 : Nat))) = c52
  generalize (decide (([AV.int IntKind.u8 (IntKind.u8.wrap pa)] :: rev45_46 t g n d pa de so we co la inc ps).length + (rev45_8 t g n d pa de so we co la inc ps).length ≤ (9223372036854775807 : Nat))) = c53
  generalize (decide (([AV.int IntKind.u8 (IntKind.u8.wrap pa)] :: rev45_43 t g n d pa de so we co la inc ps).length + (rev45_8 t g n d pa de so we co la inc ps).length ≤ (9223372036854775807 : Nat))) = c54
  generalize (decide (([AV.int IntKind.u8 (IntKind.u8.wrap pa)] :: rev45_7 t g n d pa de so we co la inc ps).length + (rev45_8 t g n d pa de so we co la inc ps).length ≤ (9223372036854775807 : Nat))) = c55
  generalize (decide (((rev45_34 t g n d pa de so we co la inc ps).length + (rev45_8 t g n d pa de so we co la inc ps).length) * (1 : Nat) ≤ (140737488355328 : Nat))) = c56
  generalize (decide (((rev45_68 t g n d pa de so we co la inc ps).length + (rev45_8 t g n d pa de so we co la inc ps).length) * (1 : Nat) ≤ (140737488355328 : Nat))) = c57
  generalize (decide (((rev45_49 t g n d pa de so we co la inc ps).length + (List.map ofB d).length) * (1 : Nat) ≤ (140737488355328 : Nat))) = c58
  generalize (decide (((rev45_22 t g n d pa de so we co la inc ps).length + (List.map ofB d).length) * (1 : Nat) ≤ (140737488355328 : Nat))) = c59
  generalize (decide (((rev45_48 t g n d pa de so we co la inc ps).length + (List.map ofB d).length) * (1 : Nat) ≤ (140737488355328 : Nat))) = c60
  generalize (decide (([AV.int IntKind.u8 (IntKind.u8.wrap pa)] :: rev45_42 t g n d pa de so we co la inc ps).length + (List.map ofB d).length ≤ (9223372036854775807 : Nat))) = c61
  generalize (decide (((rev45_60 t g n d pa de so we co la inc ps).length + (List.map ofB d).length) * (1 : Nat) ≤ (140737488355328 : Nat))) = c62
  generalize (decide (([AV.int IntKind.u8 (IntKind.u8.wrap pa)] :: rev45_22 t g n d pa de so we co la inc ps).length + (List.map ofB d).length ≤ (9223372036854775807 : Nat))) = c63
  generalize (decide (((rev45_30 t g n d pa de so we co la inc ps).length + (List.map ofB d).length) * (1 : Nat) ≤ (140737488355328 : Nat))) = c64
  generalize (decide (([AV.int IntKind.u8 (IntKind.u8.wrap pa)] :: rev45_20 t g n d pa de so we co la inc ps).length + (List.map ofB d).length ≤ (9223372036854775807 : Nat))) = c65
  generalize (decide (((rev45_39 t g n d pa de so we co la inc ps).length + (List.map ofB d).length) * (1 : Nat) ≤ (140737488355328 : Nat))) = c66
  generalize (decide (((rev45_31 t g n d pa de so we co la inc ps).length + (List.map ofB d).length) * (1 : Nat) ≤ (140737488355328 : Nat))) = c67
  generalize (decide (((rev45_42 t g n d pa de so we co la inc ps).length + (List.map ofB d).length) * (1 : Nat) ≤ (140737488355328 : Nat))) = c68
  generalize (decide (([AV.int IntKind.u8 (IntKind.u8.wrap pa)] :: rev45_1 t g n d pa de so we co la inc ps).length + (List.map ofB d).length ≤ (9223372036854775807 : Nat))) = c69
  generalize (decide (((rev45_45 t g n d pa de so we co la inc ps).length + (List.map ofB d).length) * (1 : Nat) ≤ (140737488355328 : Nat))) = c70
  generalize (decide (((rev45_57 t g n d pa de so we co la inc ps).length + (List.map ofB d).length) * (1 : Nat) ≤ (140737488355328 : Nat))) = c71
  generalize (decide (([AV.int IntKind.u8 (IntKind.u8.wrap pa)] :: rev45_3 t g n d pa de so we co la inc ps).length + (List.map ofB d).length ≤ (9223372036854775807 : Nat))) = c72
  generalize (decide (((rev45_63 t g n d pa de so we co la inc ps).length + (List.map ofB d).length) * (1 : Nat) ≤ (140737488355328 : Nat))) = c73
  generalize (decide (((rev45_55 t g n d pa de so we co la inc ps).length + (List.map ofB d).length) * (1 : Nat) ≤ (140737488355328 : Nat))) = c74
  generalize (decide (((rev45_33 t g n d pa de so we co la inc ps).length + (List.map ofB d).length) * (1 : Nat) ≤ (140737488355328 : Nat))) = c75
  generalize (decide (([AV.int IntKind.u8 (IntKind.u8.wrap pa)] :: rev45_15 t g n d pa de so we co la inc ps).length + (List.map ofB d).length ≤ (9223372036854775807 : Nat))) = c76
  generalize (decide (((rev45_65 t g n d pa de so we co la inc ps).length + (List.map ofB d).length) * (1 : Nat) ≤ (140737488355328 : Nat))) = c77
  generalize (decide (([AV.int IntKind.u8 (IntKind.u8.wrap pa)] :: List.map ofB d).length + (rev45_8 t g n d pa de so we co la inc ps).length ≤ (9223372036854775807 : Nat))) = c78
  generalize (decide (((rev45_3 t g n d pa de so we co la inc ps).length + (List.map ofB d).length) * (1 : Nat) ≤ (140737488355328 : Nat))) = c79
  generalize (decide (((rev45_0 t g n d pa de so we co la inc ps).length + (List.map ofB d).length) * (1 : Nat) ≤ (140737488355328 : Nat))) = c80
  generalize (decide (([AV.int IntKind.u8 (IntKind.u8.wrap pa)] :: rev45_45 t g n d pa de so we co la inc ps).length + (List.map ofB d).length ≤ (9223372036854775807 : Nat))) = c81
  generalize (decide (((rev45_51 t g n d pa de so we co la inc ps).length + (List.map ofB d).length) * (1 : Nat) ≤ (140737488355328 : Nat))) = c82
  generalize (decide (((rev45_20 t g n d pa de so we co la inc ps).length + (List.map ofB d).length) * (1 : Nat) ≤ (140737488355328 : Nat))) = c83
  generalize (decide (([AV.int IntKind.u8 (IntKind.u8.wrap pa)] :: rev45_0 t g n d pa de so we co la inc ps).length + (List.map ofB d).length ≤ (9223372036854775807 : Nat))) = c84
  generalize (decide (((rev45_15 t g n d pa de so we co la inc ps).length + (List.map ofB d).length) * (1 : Nat) ≤ (140737488355328 : Nat))) = c85
  generalize (decide (([AV.int IntKind.u8 (IntKind.u8.wrap pa)] :: rev45_39 t g n d pa de so we co la inc ps).length + (List.map ofB d).length ≤ (9223372036854775807 : Nat))) = c86
  generalize (decide (((rev45_67 t g n d pa de so we co la inc ps).length + (List.map ofB d).length) * (1 : Nat) ≤ (140737488355328 : Nat))) = c87
  generalize (decide (((List.map ofB d).length + (rev45_8 t g n d pa de so we co la inc ps).length) * (1 : Nat) ≤ (140737488355328 : Nat))) = c88
  generalize (decide ((rev45_58 t g n d pa de so we co la inc ps).length + (rev45_8 t g n d pa de so we co la inc ps).length ≤ (9223372036854775807 : Nat))) = c89
  generalize (decide ((rev45_36 t g n d pa de so we co la inc ps).length + (rev45_8 t g n d pa de so we co la inc ps).length ≤ (9223372036854775807 : Nat))) = c90
  generalize (decide ((rev45_17 t g n d pa de so we co la inc ps).length + (rev45_8 t g n d pa de so we co la inc ps).length ≤ (9223372036854775807 : Nat))) = c91
  generalize (decide ((rev45_43 t g n d pa de so we co la inc ps).length + (rev45_8 t g n d pa de so we co la inc ps).length ≤ (9223372036854775807 : Nat))) = c92
  generalize (decide ((rev45_61 t g n d pa de so we co la inc ps).length + (rev45_8 t g n d pa de so we co la inc ps).length ≤ (9223372036854775807 : Nat))) = c93
  generalize (decide ((rev45_52 t g n d pa de so we co la inc ps).length + (rev45_8 t g n d pa de so we co la inc ps).length ≤ (9223372036854775807 : Nat))) = c94
  generalize (decide ((rev45_46 t g n d pa de so we co la inc ps).length + (rev45_8 t g n d pa de so we co la inc ps).length ≤ (9223372036854775807 : Nat))) = c95
  generalize (decide ((rev45_7 t g n d pa de so we co la inc ps).length + (rev45_8 t g n d pa de so we co la inc ps).length ≤ (9223372036854775807 : Nat))) = c96
  generalize (decide ((rev45_34 t g n d pa de so we co la inc ps).length + (rev45_8 t g n d pa de so we co la inc ps).length ≤ (9223372036854775807 : Nat))) = c97
  generalize (decide ((rev45_25 t g n d pa de so we co la inc ps).length + (rev45_8 t g n d pa de so we co la inc ps).length ≤ (9223372036854775807 : Nat))) = c98
  generalize (decide ((rev45_64 t g n d pa de so we co la inc ps).length + (rev45_8 t g n d pa de so we co la inc ps).length ≤ (9223372036854775807 : Nat))) = c99
  generalize (decide ((rev45_68 t g n d pa de so we co la inc ps).length + (rev45_8 t g n d pa de so we co la inc ps).length ≤ (9223372036854775807 : Nat))) = c100
  generalize (decide ((rev45_40 t g n d pa de so we co la inc ps).length + (rev45_8 t g n d pa de so we co la inc ps).length ≤ (9223372036854775807 : Nat))) = c101
  generalize (decide ((rev45_53 t g n d pa de so we co la inc ps).length + (rev45_8 t g n d pa de so we co la inc ps).length ≤ (9223372036854775807 : Nat))) = c102
  generalize (decide ((List.map ofB d).length + (rev45_8 t g n d pa de so we co la inc ps).length ≤ (9223372036854775807 : Nat))) = c103
  generalize (decide ((rev45_0 t g n d pa de so we co la inc ps).length + (List.map ofB d).length ≤ (9223372036854775807 : Nat))) = c104
  generalize (decide ((rev45_3 t g n d pa de so we co la inc ps).length + (List.map ofB d).length ≤ (9223372036854775807 : Nat))) = c105
  generalize (decide ((rev45_22 t g n d pa de so we co la inc ps).length + (List.map ofB d).length ≤ (9223372036854775807 : Nat))) = c106
  generalize (decide ((rev45_57 t g n d pa de so we co la inc ps).length + (List.map ofB d).length ≤ (9223372036854775807 : Nat))) = c107
  generalize (decide ((rev45_63 t g n d pa de so we co la inc ps).length + (List.map ofB d).length ≤ (9223372036854775807 : Nat))) = c108
  generalize (decide ((rev45_60 t g n d pa de so we co la inc ps).length + (List.map ofB d).length ≤ (9223372036854775807 : Nat))) = c109
  generalize (decide ((rev45_48 t g n d pa de so we co la inc ps).length + (List.map ofB d).length ≤ (9223372036854775807 : Nat))) = c110
  generalize (decide ((rev45_55 t g n d pa de so we co la inc ps).length + (List.map ofB d).length ≤ (9223372036854775807 : Nat))) = c111
  generalize (decide ((rev45_33 t g n d pa de so we co la inc ps).length + (List.map ofB d).length ≤ (9223372036854775807 : Nat))) = c112
  generalize (decide ((rev45_65 t g n d pa de so we co la inc ps).length + (List.map ofB d).length ≤ (9223372036854775807 : Nat))) = c113
  generalize (decide ((rev45_30 t g n d pa de so we co la inc ps).length + (List.map ofB d).length ≤ (9223372036854775807 : Nat))) = c114
  generalize (decide ((rev45_51 t g n d pa de so we co la inc ps).length + (List.map ofB d).length ≤ (9223372036854775807 : Nat))) = c115
  generalize (decide ((rev45_15 t g n d pa de so we co la inc ps).length + (List.map ofB d).length ≤ (9223372036854775807 : Nat))) = c116
  generalize (decide ((rev45_39 t g n d pa de so we co la inc ps).length + (List.map ofB d).length ≤ (9223372036854775807 : Nat))) = c117
  generalize (decide ((rev45_20 t g n d pa de so we co la inc ps).length + (List.map ofB d).length ≤ (9223372036854775807 : Nat))) = c118
  generalize (decide ((rev45_49 t g n d pa de so we co la inc ps).length + (List.map ofB d).length ≤ (9223372036854775807 : Nat))) = c119
  generalize (decide ((rev45_31 t g n d pa de so we co la inc ps).length + (List.map ofB d).length ≤ (9223372036854775807 : Nat))) = c120
  generalize (decide ((rev45_42 t g n d pa de so we co la inc ps).length + (List.map ofB d).length ≤ (9223372036854775807 : Nat))) = c121
  generalize (decide ((rev45_67 t g n d pa de so we co la inc ps).length + (List.map ofB d).length ≤ (9223372036854775807 : Nat))) = c122
  generalize (decide ((rev45_45 t g n d pa de so we co la inc ps).length + (List.map ofB d).length ≤ (9223372036854775807 : Nat))) = c123
  generalize (decide ((List.map ofB d).length * (1 : Nat) ≤ (140737488355328 : Nat))) = c124
  generalize (decide ((List.map ofB d).length ≤ (9223372036854775807 : Nat))) = c125
  generalize (decide ((0 : Int) ≤ pa)) = c126
  generalize (decide (pa ≤ (1099511627776 : Int))) = c127
  generalize (vev65_0 t g n d pa de so we co la inc ps) = c128
  generalize (vev64_0 t g n d pa de so we co la inc ps) = c129
  generalize (t == (4 : Int)) = c130
  generalize (t == (3 : Int)) = c131
  generalize (t == (7 : Int)) = c132
  generalize (t == (8 : Int)) = c133
  generalize (so) = c134
  cases c129
  · skip
    cases c128
    · skip
      cases c132
      · skip
        cases c131
        · skip
          cases c133
          · skip
            cases c130
            · skip
              cases c124
              · skip
                rfl
              · skip
                cases c125
                · skip
                  rfl
                · skip
                  cases c126
                  · skip
                    rfl
                  · skip
                    cases c127
                    · skip
                      rfl
                    · skip
                      cases c88
                      · skip
                        rfl
                      · skip
                        cases c103
                        · skip
                          rfl
                        · skip
                          rfl
            · skip
              cases c5
              · skip
                rfl
              · skip
                cases c87
                · skip
                  rfl
                · skip
                  cases c122
                  · skip
                    rfl
                  · skip
                    cases c126
                    · skip
                      rfl
                    · skip
                      cases c127
                      · skip
                        rfl
                      · skip
                        cases c57
                        · skip
                          rfl
                        · skip
                          cases c100
                          · skip
                            rfl
                          · skip
                            rfl
          · skip
            cases c83
            · skip
              rfl
            · skip
              cases c118
              · skip
                rfl
              · skip
                cases c126
                · skip
                  rfl
                · skip
                  cases c127
                  · skip
                    rfl
                  · skip
                    cases c8
                    · skip
                      rfl
                    · skip
                      cases c22
                      · skip
                        rfl
                      · skip
                        rfl
        · skip
          cases c80
          · skip
            rfl
          · skip
            cases c104
            · skip
              rfl
            · skip
              cases c126
              · skip
                rfl
              · skip
                cases c127
                · skip
                  rfl
                · skip
                  cases c6
                  · skip
                    rfl
                  · skip
                    cases c21
                    · skip
                      rfl
                    · skip
                      rfl
      · skip
        cases c77
        · skip
          rfl
        · skip
          cases c113
          · skip
            rfl
          · skip
            cases c126
            · skip
              rfl
            · skip
              cases c127
              · skip
                rfl
              · skip
                cases c7
                · skip
                  rfl
                · skip
                  cases c20
                  · skip
                    rfl
                  · skip
                    rfl
    · skip
      cases c134
      · skip
        cases c132
        · skip
          cases c131
          · skip
            cases c133
            · skip
              cases c130
              · skip
                cases c60
                · skip
                  rfl
                · skip
                  cases c110
                  · skip
                    rfl
                  · skip
                    cases c126
                    · skip
                      rfl
                    · skip
                      cases c127
                      · skip
                        rfl
                      · skip
                        cases c47
                        · skip
                          rfl
                        · skip
                          cases c102
                          · skip
                            rfl
                          · skip
                            rfl
              · skip
                cases c0
                · skip
                  rfl
                · skip
                  cases c73
                  · skip
                    rfl
                  · skip
                    cases c108
                    · skip
                      rfl
                    · skip
                      cases c126
                      · skip
                        rfl
                      · skip
                        cases c127
                        · skip
                          rfl
                        · skip
                          cases c52
                          · skip
                            rfl
                          · skip
                            cases c99
                            · skip
                              rfl
                            · skip
                              rfl
            · skip
              cases c70
              · skip
                rfl
              · skip
                cases c123
                · skip
                  rfl
                · skip
                  cases c126
                  · skip
                    rfl
                  · skip
                    cases c127
                    · skip
                      rfl
                    · skip
                      cases c50
                      · skip
                        rfl
                      · skip
                        cases c95
                        · skip
                          rfl
                        · skip
                          rfl
          · skip
            cases c68
            · skip
              rfl
            · skip
              cases c121
              · skip
                rfl
              · skip
                cases c126
                · skip
                  rfl
                · skip
                  cases c127
                  · skip
                    rfl
                  · skip
                    cases c49
                    · skip
                      rfl
                    · skip
                      cases c92
                      · skip
                        rfl
                      · skip
                        rfl
        · skip
          cases c66
          · skip
            rfl
          · skip
            cases c117
            · skip
              rfl
            · skip
              cases c126
              · skip
                rfl
              · skip
                cases c127
                · skip
                  rfl
                · skip
                  cases c48
                  · skip
                    rfl
                  · skip
                    cases c101
                    · skip
                      rfl
                    · skip
                      rfl
      · skip
        cases c132
        · skip
          cases c131
          · skip
            cases c133
            · skip
              cases c130
              · skip
                cases c64
                · skip
                  rfl
                · skip
                  cases c114
                  · skip
                    rfl
                  · skip
                    cases c126
                    · skip
                      rfl
                    · skip
                      cases c127
                      · skip
                        rfl
                      · skip
                        cases c34
                        · skip
                          rfl
                        · skip
                          cases c90
                          · skip
                            rfl
                          · skip
                            rfl
              · skip
                cases c4
                · skip
                  rfl
                · skip
                  cases c62
                  · skip
                    rfl
                  · skip
                    cases c109
                    · skip
                      rfl
                    · skip
                      cases c126
                      · skip
                        rfl
                      · skip
                        cases c127
                        · skip
                          rfl
                        · skip
                          cases c46
                          · skip
                            rfl
                          · skip
                            cases c93
                            · skip
                              rfl
                            · skip
                              rfl
            · skip
              cases c59
              · skip
                rfl
              · skip
                cases c106
                · skip
                  rfl
                · skip
                  cases c126
                  · skip
                    rfl
                  · skip
                    cases c127
                    · skip
                      rfl
                    · skip
                      cases c45
                      · skip
                        rfl
                      · skip
                        cases c98
                        · skip
                          rfl
                        · skip
                          rfl
          · skip
            cases c85
            · skip
              rfl
            · skip
              cases c116
              · skip
                rfl
              · skip
                cases c126
                · skip
                  rfl
                · skip
                  cases c127
                  · skip
                    rfl
                  · skip
                    cases c44
                    · skip
                      rfl
                    · skip
                      cases c91
                      · skip
                        rfl
                      · skip
                        rfl
        · skip
          cases c79
          · skip
            rfl
          · skip
            cases c105
            · skip
              rfl
            · skip
              cases c126
              · skip
                rfl
              · skip
                cases c127
                · skip
                  rfl
                · skip
                  cases c43
                  · skip
                    rfl
                  · skip
                    cases c96
                    · skip
                      rfl
                    · skip
                      rfl
  · skip
    cases c128
    · skip
      cases c132
      · skip
        cases c131
        · skip
          cases c133
          · skip
            cases c130
            · skip
              cases c74
              · skip
                rfl
              · skip
                cases c111
                · skip
                  rfl
                · skip
                  cases c126
                  · skip
                    rfl
                  · skip
                    cases c127
                    · skip
                      rfl
                    · skip
                      cases c24
                      · skip
                        rfl
                      · skip
                        cases c78
                        · skip
                          rfl
                        · skip
                          rfl
            · skip
              cases c1
              · skip
                rfl
              · skip
                cases c71
                · skip
                  rfl
                · skip
                  cases c107
                  · skip
                    rfl
                  · skip
                    cases c126
                    · skip
                      rfl
                    · skip
                      cases c127
                      · skip
                        rfl
                      · skip
                        cases c42
                        · skip
                          rfl
                        · skip
                          cases c89
                          · skip
                            rfl
                          · skip
                            rfl
          · skip
            cases c32
            · skip
              rfl
            · skip
              cases c65
              · skip
                rfl
              · skip
                cases c126
                · skip
                  rfl
                · skip
                  cases c127
                  · skip
                    rfl
                  · skip
                    cases c10
                    · skip
                      rfl
                    · skip
                      cases c41
                      · skip
                        rfl
                      · skip
                        rfl
        · skip
          cases c29
          · skip
            rfl
          · skip
            cases c84
            · skip
              rfl
            · skip
              cases c126
              · skip
                rfl
              · skip
                cases c127
                · skip
                  rfl
                · skip
                  cases c16
                  · skip
                    rfl
                  · skip
                    cases c33
                    · skip
                      rfl
                    · skip
                      rfl
      · skip
        cases c26
        · skip
          rfl
        · skip
          cases c69
          · skip
            rfl
          · skip
            cases c126
            · skip
              rfl
            · skip
              cases c127
              · skip
                rfl
              · skip
                cases c15
                · skip
                  rfl
                · skip
                  cases c39
                  · skip
                    rfl
                  · skip
                    rfl
    · skip
      cases c134
      · skip
        cases c132
        · skip
          cases c131
          · skip
            cases c133
            · skip
              cases c130
              · skip
                cases c58
                · skip
                  rfl
                · skip
                  cases c119
                  · skip
                    rfl
                  · skip
                    cases c126
                    · skip
                      rfl
                    · skip
                      cases c127
                      · skip
                        rfl
                      · skip
                        cases c9
                        · skip
                          rfl
                        · skip
                          cases c36
                          · skip
                            rfl
                          · skip
                            rfl
              · skip
                cases c3
                · skip
                  rfl
                · skip
                  cases c82
                  · skip
                    rfl
                  · skip
                    cases c115
                    · skip
                      rfl
                    · skip
                      cases c126
                      · skip
                        rfl
                      · skip
                        cases c127
                        · skip
                          rfl
                        · skip
                          cases c35
                          · skip
                            rfl
                          · skip
                            cases c94
                            · skip
                              rfl
                            · skip
                              rfl
            · skip
              cases c30
              · skip
                rfl
              · skip
                cases c81
                · skip
                  rfl
                · skip
                  cases c126
                  · skip
                    rfl
                  · skip
                    cases c127
                    · skip
                      rfl
                    · skip
                      cases c13
                      · skip
                        rfl
                      · skip
                        cases c53
                        · skip
                          rfl
                        · skip
                          rfl
          · skip
            cases c28
            · skip
              rfl
            · skip
              cases c61
              · skip
                rfl
              · skip
                cases c126
                · skip
                  rfl
                · skip
                  cases c127
                  · skip
                    rfl
                  · skip
                    cases c12
                    · skip
                      rfl
                    · skip
                      cases c54
                      · skip
                        rfl
                      · skip
                        rfl
        · skip
          cases c23
          · skip
            rfl
          · skip
            cases c86
            · skip
              rfl
            · skip
              cases c126
              · skip
                rfl
              · skip
                cases c127
                · skip
                  rfl
                · skip
                  cases c11
                  · skip
                    rfl
                  · skip
                    cases c40
                    · skip
                      rfl
                    · skip
                      rfl
      · skip
        cases c132
        · skip
          cases c131
          · skip
            cases c133
            · skip
              cases c130
              · skip
                cases c67
                · skip
                  rfl
                · skip
                  cases c120
                  · skip
                    rfl
                  · skip
                    cases c126
                    · skip
                      rfl
                    · skip
                      cases c127
                      · skip
                        rfl
                      · skip
                        cases c18
                        · skip
                          rfl
                        · skip
                          cases c38
                          · skip
                            rfl
                          · skip
                            rfl
              · skip
                cases c2
                · skip
                  rfl
                · skip
                  cases c75
                  · skip
                    rfl
                  · skip
                    cases c112
                    · skip
                      rfl
                    · skip
                      cases c126
                      · skip
                        rfl
                      · skip
                        cases c127
                        · skip
                          rfl
                        · skip
                          cases c56
                          · skip
                            rfl
                          · skip
                            cases c97
                            · skip
                              rfl
                            · skip
                              rfl
            · skip
              cases c27
              · skip
                rfl
              · skip
                cases c63
                · skip
                  rfl
                · skip
                  cases c126
                  · skip
                    rfl
                  · skip
                    cases c127
                    · skip
                      rfl
                    · skip
                      cases c17
                      · skip
                        rfl
                      · skip
                        cases c51
                        · skip
                          rfl
                        · skip
                          rfl
          · skip
            cases c25
            · skip
              rfl
            · skip
              cases c76
              · skip
                rfl
              · skip
                cases c126
                · skip
                  rfl
                · skip
                  cases c127
                  · skip
                    rfl
                  · skip
                    cases c19
                    · skip
                      rfl
                    · skip
                      cases c37
                      · skip
                        rfl
                      · skip
                        rfl
        · skip
          cases c31
          · skip
            rfl
          · skip
            cases c72
            · skip
              rfl
            · skip
              cases c126
              · skip
                rfl
              · skip
                cases c127
                · skip
                  rfl
                · skip
                  cases c14
                  · skip
                    rfl
                  · skip
                    cases c55
                    · skip
                      rfl
                    · skip
                      rfl
-- spec vev45_1 t g n d pa de so we co la inc ps ;; (true, AV.sl Tk.imm [Kd.int IntKind.u8] (vev45_0 t g n d pa de so we co la inc ps), [])
noncomputable def sp45 : List AV → List Blk → Option (Bool × AV × List Blk)
  | [.agg [.int .u8 t, .int .u8 g, .int .i64 n, .str d, .int .i64 pa, .int .i64 de, .bool so, .int .u8 we, .int .u32 co, .int .i64 la, .int .i64 inc, .sl .imm [.int .u16, .int .u32] ps]], [] => spW (vev45_1 t g n d pa de so we co la inc ps) (some ((true, AV.sl Tk.imm [Kd.int IntKind.u8] (vev45_0 t g n d pa de so we co la inc ps), [])))
  | _, _ => none
noncomputable def k45 : Gam := fun f T C => match Nat.beq f 45 with
  | true => (sp45 T C).or (k66 f T C)
  | false => k66 f T C
theorem k45_ok : GamOK Try.prog k45 := by
  intro f T C r outs h
  unfold k45 at h
  cases hf : Nat.beq f 45 with
  | false => rw [hf] at h; exact k66_ok f T C r outs h
  | true =>
    have hf' := Nat.eq_of_beq_eq_true hf
    subst hf'
    rw [hf] at h
    dsimp only at h
    cases hs : sp45 T C with
    | none => rw [hs] at h; exact k66_ok _ T C r outs h
    | some x =>
      rw [hs] at h
      have hx : x = (true, r, outs) := by simpa using h
      subst hx
      unfold sp45 at hs
      split at hs
      · rename_i t g n d pa de so we co la inc ps
        obtain ⟨hb, rfl, rfl⟩ := spT_inv hs
        have he := ev45 t g n d pa de so we co la inc ps
        rw [hb, cond_true] at he
        obtain ⟨r0, o0, h0, he⟩ := evFin_inv he
        obtain ⟨h1, h2⟩ := fn_ok mixed plain (gk_ok k66_ok 30) Try.func45 loops45 h0
        exact ⟨h1, h2.fin he⟩
      · cases hs
noncomputable def rev19_0 (t : Int) (g : Int) (n : Int) (d : List UInt8) (pa : Int) (de : Int) (so : Bool) (we : Int) (co : Int) (la : Int) (inc : Int) (ps : List (List AV)) : Int := (↑(vev45_0 t g n d pa de so we co la inc ps).length : Int)
noncomputable def vev19_0 (t : Int) (g : Int) (n : Int) (d : List UInt8) (pa : Int) (de : Int) (so : Bool) (we : Int) (co : Int) (la : Int) (inc : Int) (ps : List (List AV)) : Int := bif !vev49_0 n then (8 : Int) else bif !vev49_0 de then (8 : Int) else bif !vev49_0 la then (8 : Int) else bif !vev49_0 inc then (8 : Int) else bif decide (pa < (0 : Int)) then (8 : Int) else bif decide (pa > (255 : Int)) then (8 : Int) else bif vev50_0 t g n d pa de so we co la inc ps then (4 : Int) else bif decide (rev19_0 t g n d pa de so we co la inc ps > (16384 : Int)) then (5 : Int) else (0 : Int)
noncomputable def vev19_1 (t : Int) (g : Int) (n : Int) (d : List UInt8) (pa : Int) (de : Int) (so : Bool) (we : Int) (co : Int) (la : Int) (inc : Int) (ps : List (List AV)) : Bool := bif !vev49_0 n then true else bif !vev49_0 de then true else bif !vev49_0 la then true else bif !vev49_0 inc then true else bif decide (pa < (0 : Int)) then true else bif decide (pa > (255 : Int)) then true else bif vev50_0 t g n d pa de so we co la inc ps then true else bif vev45_1 t g n d pa de so we co la inc ps then true else false
theorem ev19 (t : Int) (g : Int) (n : Int) (d : List UInt8) (pa : Int) (de : Int) (so : Bool) (we : Int) (co : Int) (la : Int) (inc : Int) (ps : List (List AV)) : evFin (cfg Try.prog tab 100000 (gk k45 30) noLsp 19 ([] : List Blk).length Try.f19.ntmps) ([] : List Blk).length Try.f19.resultTypes.toList Try.f19 [.agg [.int .u8 t, .int .u8 g, .int .i64 n, .str d, .int .i64 pa, .int .i64 de, .bool so, .int .u8 we, .int .u32 co, .int .i64 la, .int .i64 inc, .sl .imm [.int .u16, .int .u32] ps]] [] = bif vev19_1 t g n d pa de so we co la inc ps then some (true, AV.int IntKind.i64 (vev19_0 t g n d pa de so we co la inc ps), []) else none := by
  have h : evFin (cfg Try.prog tab 100000 (gk k45 30) noLsp 19 ([] : List Blk).length Try.f19.ntmps) ([] : List Blk).length Try.f19.resultTypes.toList Try.f19 [.agg [.int .u8 t, .int .u8 g, .int .i64 n, .str d, .int .i64 pa, .int .i64 de, .bool so, .int .u8 we, .int .u32 co, .int .i64 la, .int .i64 inc, .sl .imm [.int .u16, .int .u32] ps]] [] = bif !vev49_0 n then bif !vev49_0 n then some (true, AV.int IntKind.i64 (8 : Int), []) else bif vev50_0 t g n d pa de so we co la inc ps then some (true, AV.int IntKind.i64 (4 : Int), []) else bif vev45_1 t g n d pa de so we co la inc ps then bif decide (rev19_0 t g n d pa de so we co la inc ps > (16384 : Int)) then some (true, AV.int IntKind.i64 (5 : Int), []) else some (true, AV.int IntKind.i64 (0 : Int), []) else none else bif !vev49_0 de then bif !vev49_0 de then some (true, AV.int IntKind.i64 (8 : Int), []) else bif vev50_0 t g n d pa de so we co la inc ps then some (true, AV.int IntKind.i64 (4 : Int), []) else bif vev45_1 t g n d pa de so we co la inc ps then bif decide (rev19_0 t g n d pa de so we co la inc ps > (16384 : Int)) then some (true, AV.int IntKind.i64 (5 : Int), []) else some (true, AV.int IntKind.i64 (0 : Int), []) else none else bif !vev49_0 la then bif !vev49_0 la then some (true, AV.int IntKind.i64 (8 : Int), []) else bif vev50_0 t g n d pa de so we co la inc ps then some (true, AV.int IntKind.i64 (4 : Int), []) else bif vev45_1 t g n d pa de so we co la inc ps then bif decide (rev19_0 t g n d pa de so we co la inc ps > (16384 : Int)) then some (true, AV.int IntKind.i64 (5 : Int), []) else some (true, AV.int IntKind.i64 (0 : Int), []) else none else bif !vev49_0 inc then bif !vev49_0 inc then some (true, AV.int IntKind.i64 (8 : Int), []) else bif vev50_0 t g n d pa de so we co la inc ps then some (true, AV.int IntKind.i64 (4 : Int), []) else bif vev45_1 t g n d pa de so we co la inc ps then bif decide (rev19_0 t g n d pa de so we co la inc ps > (16384 : Int)) then some (true, AV.int IntKind.i64 (5 : Int), []) else some (true, AV.int IntKind.i64 (0 : Int), []) else none else bif decide (pa < (0 : Int)) then bif decide (pa < (0 : Int)) then some (true, AV.int IntKind.i64 (8 : Int), []) else bif vev50_0 t g n d pa de so we co la inc ps then some (true, AV.int IntKind.i64 (4 : Int), []) else bif vev45_1 t g n d pa de so we co la inc ps then bif decide (rev19_0 t g n d pa de so we co la inc ps > (16384 : Int)) then some (true, AV.int IntKind.i64 (5 : Int), []) else some (true, AV.int IntKind.i64 (0 : Int), []) else none else bif decide (pa > (255 : Int)) then some (true, AV.int IntKind.i64 (8 : Int), []) else bif vev50_0 t g n d pa de so we co la inc ps then some (true, AV.int IntKind.i64 (4 : Int), []) else bif vev45_1 t g n d pa de so we co la inc ps then bif decide (rev19_0 t g n d pa de so we co la inc ps > (16384 : Int)) then some (true, AV.int IntKind.i64 (5 : Int), []) else some (true, AV.int IntKind.i64 (0 : Int), []) else none := by kernel_rfl
  rw [h]
  clear h
  unfold vev19_0 vev19_1
  generalize (decide (rev19_0 t g n d pa de so we co la inc ps > (16384 : Int))) = c0
  generalize (decide (pa < (0 : Int))) = c1
  generalize (decide (pa > (255 : Int))) = c2
  generalize (vev50_0 t g n d pa de so we co la inc ps) = c3
  generalize (vev45_1 t g n d pa de so we co la inc ps) = c4
  generalize (!vev49_0 de) = c5
  generalize (!vev49_0 la) = c6
  generalize (!vev49_0 inc) = c7
  generalize (!vev49_0 n) = c8
  cases c8
  · skip
    cases c5
    · skip
      cases c6
      · skip
        cases c7
        · skip
          cases c1
          · skip
            cases c2
            · skip
              cases c3
              · skip
                cases c4
                · skip
                  rfl
                · skip
                  cases c0
                  · skip
                    rfl
                  · skip
                    rfl
              · skip
                rfl
            · skip
              rfl
          · skip
            rfl
        · skip
          rfl
      · skip
        rfl
    · skip
      rfl
  · skip
    rfl
-- spec vev19_1 t g n d pa de so we co la inc ps ;; (true, AV.int IntKind.i64 (vev19_0 t g n d pa de so we co la inc ps), [])
noncomputable def sp19 : List AV → List Blk → Option (Bool × AV × List Blk)
  | [.agg [.int .u8 t, .int .u8 g, .int .i64 n, .str d, .int .i64 pa, .int .i64 de, .bool so, .int .u8 we, .int .u32 co, .int .i64 la, .int .i64 inc, .sl .imm [.int .u16, .int .u32] ps]], [] => spW (vev19_1 t g n d pa de so we co la inc ps) (some ((true, AV.int IntKind.i64 (vev19_0 t g n d pa de so we co la inc ps), [])))
  | _, _ => none
noncomputable def k19 : Gam := fun f T C => match Nat.beq f 19 with
  | true => (sp19 T C).or (k45 f T C)
  | false => k45 f T C
theorem k19_ok : GamOK Try.prog k19 := by
  intro f T C r outs h
  unfold k19 at h
  cases hf : Nat.beq f 19 with
  | false => rw [hf] at h; exact k45_ok f T C r outs h
  | true =>
    have hf' := Nat.eq_of_beq_eq_true hf
    subst hf'
    rw [hf] at h
    dsimp only at h
    cases hs : sp19 T C with
    | none => rw [hs] at h; exact k45_ok _ T C r outs h
    | some x =>
      rw [hs] at h
      have hx : x = (true, r, outs) := by simpa using h
      subst hx
      unfold sp19 at hs
      split at hs
      · rename_i t g n d pa de so we co la inc ps
        obtain ⟨hb, rfl, rfl⟩ := spT_inv hs
        have he := ev19 t g n d pa de so we co la inc ps
        rw [hb, cond_true] at he
        obtain ⟨r0, o0, h0, he⟩ := evFin_inv he
        obtain ⟨h1, h2⟩ := fn_ok mixed plain (gk_ok k45_ok 30) Try.func19 (fun c _ => LoopsOK.none (fun _ _ => rfl) c) h0
        exact ⟨h1, h2.fin he⟩
      · cases hs
end Go.Proofs.Gv
