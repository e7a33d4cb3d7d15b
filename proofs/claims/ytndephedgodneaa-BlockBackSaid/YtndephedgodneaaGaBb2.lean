import Derived.Test.YtndephedgodneaaGt
import Derived.KernelRfl
import Derived.Test.YtndephedgodneaaGwF
import Derived.Test.YtndephedgodneaaGaBb
namespace Go.Proofs.Gv
open Go.Proofs
set_option linter.unusedVariables false
noncomputable def vev54n_0 (s : Int) (d : List UInt8) (e : Bool) (t : Int) (g : Int) (n : Int) (da : List UInt8) (pa : Int) (de : Int) (so : Bool) (we : Int) (co : Int) (la : Int) (inc : Int) : Bool := bif bif bif t == (9 : Int) then true else t == (1 : Int) then bif decide (n < (1 : Int)) then true else decide (n > (2147483647 : Int)) else false then false else bif vev30_0 s d e then bif t == (9 : Int) then t == (9 : Int) else t == (9 : Int) else bif t == (9 : Int) then true else bif false then true else t == (1 : Int)
noncomputable def vev54n_1 (s : Int) (d : List UInt8) (e : Bool) (t : Int) (g : Int) (n : Int) (da : List UInt8) (pa : Int) (de : Int) (so : Bool) (we : Int) (co : Int) (la : Int) (inc : Int) : Bool := bif bif bif t == (9 : Int) then true else t == (1 : Int) then bif decide (n < (1 : Int)) then true else decide (n > (2147483647 : Int)) else false then true else bif vev30_0 s d e then bif t == (9 : Int) then bif true then n == s else false else false else !t == (9 : Int)
theorem ev54n (s : Int) (d : List UInt8) (e : Bool) (t : Int) (g : Int) (n : Int) (da : List UInt8) (pa : Int) (de : Int) (so : Bool) (we : Int) (co : Int) (la : Int) (inc : Int) : evFin (cfg Try.prog tab 100000 (gk k19 30) noLsp 54 ([] : List Blk).length Try.f54.ntmps) ([] : List Blk).length Try.f54.resultTypes.toList Try.f54 [.agg [.int .i64 s, .str d, .bool e], .agg [.int .u8 t, .int .u8 g, .int .i64 n, .str da, .int .i64 pa, .int .i64 de, .bool so, .int .u8 we, .int .u32 co, .int .i64 la, .int .i64 inc, .nil]] [] = bif true then some (true, AV.tup [AV.bool (vev54n_0 s d e t g n da pa de so we co la inc), AV.bool (vev54n_1 s d e t g n da pa de so we co la inc)], []) else none := by
  have h : evFin (cfg Try.prog tab 100000 (gk k19 30) noLsp 54 ([] : List Blk).length Try.f54.ntmps) ([] : List Blk).length Try.f54.resultTypes.toList Try.f54 [.agg [.int .i64 s, .str d, .bool e], .agg [.int .u8 t, .int .u8 g, .int .i64 n, .str da, .int .i64 pa, .int .i64 de, .bool so, .int .u8 we, .int .u32 co, .int .i64 la, .int .i64 inc, .nil]] [] = bif bif t == (9 : Int) then true else true then bif bif bif t == (9 : Int) then true else bif false then true else t == (1 : Int) then bif decide (n < (1 : Int)) then true else true else true then bif bif bif t == (9 : Int) then true else bif false then true else t == (1 : Int) then bif decide (n < (1 : Int)) then bif true then true else false else bif true then bif false then true else decide (n > (2147483647 : Int)) else false else false then some (true, AV.tup [AV.bool false, AV.bool true], []) else bif vev30_0 s d e then bif bif t == (9 : Int) then true else true then some (true, AV.tup [AV.bool (bif t == (9 : Int) then t == (9 : Int) else t == (9 : Int)), AV.bool (bif t == (9 : Int) then bif true then n == s else false else false)], []) else none else some (true, AV.tup [AV.bool (bif t == (9 : Int) then true else bif false then true else t == (1 : Int)), AV.bool !t == (9 : Int)], []) else none else none := by kernel_rfl
  rw [h]
  clear h
  unfold vev54n_0 vev54n_1
  generalize (decide (n < (1 : Int))) = c0
  generalize (decide (n > (2147483647 : Int))) = c1
  generalize (t == (1 : Int)) = c2
  generalize (t == (9 : Int)) = c3
  generalize (vev30_0 s d e) = c4
  cases c3
  · skip
    cases c2
    · skip
      cases c4
      · skip
        rfl
      · skip
        rfl
    · skip
      cases c0
      · skip
        cases c1
        · skip
          cases c4
          · skip
            rfl
          · skip
            rfl
        · skip
          rfl
      · skip
        rfl
  · skip
    cases c0
    · skip
      cases c1
      · skip
        cases c4
        · skip
          rfl
        · skip
          rfl
      · skip
        rfl
    · skip
      rfl
-- spec true ;; (true, AV.tup [AV.bool (vev54n_0 s d e t g n da pa de so we co la inc), AV.bool (vev54n_1 s d e t g n da pa de so we co la inc)], [])
noncomputable def sp54n : List AV → List Blk → Option (Bool × AV × List Blk)
  | [.agg [.int .i64 s, .str d, .bool e], .agg [.int .u8 t, .int .u8 g, .int .i64 n, .str da, .int .i64 pa, .int .i64 de, .bool so, .int .u8 we, .int .u32 co, .int .i64 la, .int .i64 inc, .nil]], [] => spW (true) (some ((true, AV.tup [AV.bool (vev54n_0 s d e t g n da pa de so we co la inc), AV.bool (vev54n_1 s d e t g n da pa de so we co la inc)], [])))
  | _, _ => none
noncomputable def k54n : Gam := fun f T C => match Nat.beq f 54 with
  | true => (sp54n T C).or (k19 f T C)
  | false => k19 f T C
theorem k54n_ok : GamOK Try.prog k54n := by
  intro f T C r outs h
  unfold k54n at h
  cases hf : Nat.beq f 54 with
  | false => rw [hf] at h; exact k19_ok f T C r outs h
  | true =>
    have hf' := Nat.eq_of_beq_eq_true hf
    subst hf'
    rw [hf] at h
    dsimp only at h
    cases hs : sp54n T C with
    | none => rw [hs] at h; exact k19_ok _ T C r outs h
    | some x =>
      rw [hs] at h
      have hx : x = (true, r, outs) := by simpa using h
      subst hx
      unfold sp54n at hs
      split at hs
      · rename_i s d e t g n da pa de so we co la inc
        obtain ⟨hb, rfl, rfl⟩ := spT_inv hs
        have he := ev54n s d e t g n da pa de so we co la inc
        obtain ⟨r0, o0, h0, he⟩ := evFin_inv he
        obtain ⟨h1, h2⟩ := fn_ok mixed plain (gk_ok k19_ok 30) Try.func54 (fun c _ => LoopsOK.none (fun _ _ => rfl) c) h0
        exact ⟨h1, h2.fin he⟩
      · cases hs
noncomputable def rev26n_0 (s : Int) (d : List UInt8) (e : Bool) (t : Int) (g : Int) (n : Int) (da : List UInt8) (pa : Int) (de : Int) (so : Bool) (we : Int) (co : Int) (la : Int) (inc : Int) : List UInt8 := d ++ da
noncomputable def rev26n_1 (s : Int) (d : List UInt8) (e : Bool) (t : Int) (g : Int) (n : Int) (da : List UInt8) (pa : Int) (de : Int) (so : Bool) (we : Int) (co : Int) (la : Int) (inc : Int) : Int := (↑(rev26n_0 s d e t g n da pa de so we co la inc).length : Int)
noncomputable def vev26n_0 (s : Int) (d : List UInt8) (e : Bool) (t : Int) (g : Int) (n : Int) (da : List UInt8) (pa : Int) (de : Int) (so : Bool) (we : Int) (co : Int) (la : Int) (inc : Int) : Int := bif vev28_0 s d e != (0 : Int) then s else bif !vev54n_1 s d e t g n da pa de so we co la inc then s else bif !vev54n_0 s d e t g n da pa de so we co la inc then s else bif decide (rev26n_1 s d e t g n da pa de so we co la inc > (4096 : Int)) then s else bif bits BinOp.and IntKind.u8 g (4 : Int) != (0 : Int) then (0 : Int) else n
noncomputable def vev26n_1 (s : Int) (d : List UInt8) (e : Bool) (t : Int) (g : Int) (n : Int) (da : List UInt8) (pa : Int) (de : Int) (so : Bool) (we : Int) (co : Int) (la : Int) (inc : Int) : List UInt8 := bif vev28_0 s d e != (0 : Int) then d else bif !vev54n_1 s d e t g n da pa de so we co la inc then d else bif !vev54n_0 s d e t g n da pa de so we co la inc then d else bif decide (rev26n_1 s d e t g n da pa de so we co la inc > (4096 : Int)) then d else bif bits BinOp.and IntKind.u8 g (4 : Int) != (0 : Int) then (ByteArray.mk #[]).data.toList else rev26n_0 s d e t g n da pa de so we co la inc
noncomputable def vev26n_2 (s : Int) (d : List UInt8) (e : Bool) (t : Int) (g : Int) (n : Int) (da : List UInt8) (pa : Int) (de : Int) (so : Bool) (we : Int) (co : Int) (la : Int) (inc : Int) : Bool := bif vev28_0 s d e != (0 : Int) then e else bif !vev54n_1 s d e t g n da pa de so we co la inc then e else bif !vev54n_0 s d e t g n da pa de so we co la inc then e else bif t == (1 : Int) then bif decide (rev26n_1 s d e t g n da pa de so we co la inc > (4096 : Int)) then e else bif bits BinOp.and IntKind.u8 g (4 : Int) != (0 : Int) then false else bits BinOp.and IntKind.u8 g (1 : Int) != (0 : Int) else bif decide (rev26n_1 s d e t g n da pa de so we co la inc > (4096 : Int)) then e else bif bits BinOp.and IntKind.u8 g (4 : Int) != (0 : Int) then false else e
noncomputable def vev26n_3 (s : Int) (d : List UInt8) (e : Bool) (t : Int) (g : Int) (n : Int) (da : List UInt8) (pa : Int) (de : Int) (so : Bool) (we : Int) (co : Int) (la : Int) (inc : Int) : Int := bif vev28_0 s d e != (0 : Int) then (0 : Int) else bif !vev54n_1 s d e t g n da pa de so we co la inc then (0 : Int) else bif !vev54n_0 s d e t g n da pa de so we co la inc then (0 : Int) else bif decide (rev26n_1 s d e t g n da pa de so we co la inc > (4096 : Int)) then (0 : Int) else bif bits BinOp.and IntKind.u8 g (4 : Int) != (0 : Int) then n else (0 : Int)
noncomputable def vev26n_4 (s : Int) (d : List UInt8) (e : Bool) (t : Int) (g : Int) (n : Int) (da : List UInt8) (pa : Int) (de : Int) (so : Bool) (we : Int) (co : Int) (la : Int) (inc : Int) : List UInt8 := bif vev28_0 s d e != (0 : Int) then (ByteArray.mk #[]).data.toList else bif !vev54n_1 s d e t g n da pa de so we co la inc then (ByteArray.mk #[]).data.toList else bif !vev54n_0 s d e t g n da pa de so we co la inc then (ByteArray.mk #[]).data.toList else bif decide (rev26n_1 s d e t g n da pa de so we co la inc > (4096 : Int)) then (ByteArray.mk #[]).data.toList else bif bits BinOp.and IntKind.u8 g (4 : Int) != (0 : Int) then rev26n_0 s d e t g n da pa de so we co la inc else (ByteArray.mk #[]).data.toList
noncomputable def vev26n_5 (s : Int) (d : List UInt8) (e : Bool) (t : Int) (g : Int) (n : Int) (da : List UInt8) (pa : Int) (de : Int) (so : Bool) (we : Int) (co : Int) (la : Int) (inc : Int) : Bool := bif vev28_0 s d e != (0 : Int) then false else bif !vev54n_1 s d e t g n da pa de so we co la inc then false else bif !vev54n_0 s d e t g n da pa de so we co la inc then false else bif t == (1 : Int) then bif decide (rev26n_1 s d e t g n da pa de so we co la inc > (4096 : Int)) then false else bif bits BinOp.and IntKind.u8 g (4 : Int) != (0 : Int) then bits BinOp.and IntKind.u8 g (1 : Int) != (0 : Int) else false else bif decide (rev26n_1 s d e t g n da pa de so we co la inc > (4096 : Int)) then false else bif bits BinOp.and IntKind.u8 g (4 : Int) != (0 : Int) then e else false
noncomputable def vev26n_6 (s : Int) (d : List UInt8) (e : Bool) (t : Int) (g : Int) (n : Int) (da : List UInt8) (pa : Int) (de : Int) (so : Bool) (we : Int) (co : Int) (la : Int) (inc : Int) : Bool := bif vev28_0 s d e != (0 : Int) then false else bif !vev54n_1 s d e t g n da pa de so we co la inc then false else bif !vev54n_0 s d e t g n da pa de so we co la inc then false else bif decide (rev26n_1 s d e t g n da pa de so we co la inc > (4096 : Int)) then false else bif bits BinOp.and IntKind.u8 g (4 : Int) != (0 : Int) then true else false
noncomputable def vev26n_7 (s : Int) (d : List UInt8) (e : Bool) (t : Int) (g : Int) (n : Int) (da : List UInt8) (pa : Int) (de : Int) (so : Bool) (we : Int) (co : Int) (la : Int) (inc : Int) : Int := bif vev28_0 s d e != (0 : Int) then (0 : Int) else bif !vev54n_1 s d e t g n da pa de so we co la inc then (1 : Int) else bif !vev54n_0 s d e t g n da pa de so we co la inc then (0 : Int) else bif decide (rev26n_1 s d e t g n da pa de so we co la inc > (4096 : Int)) then (11 : Int) else (0 : Int)
noncomputable def vev26n_8 (s : Int) (d : List UInt8) (e : Bool) (t : Int) (g : Int) (n : Int) (da : List UInt8) (pa : Int) (de : Int) (so : Bool) (we : Int) (co : Int) (la : Int) (inc : Int) : Bool := bif vev28_0 s d e != (0 : Int) then true else bif !vev54n_1 s d e t g n da pa de so we co la inc then true else bif !vev54n_0 s d e t g n da pa de so we co la inc then true else bif decide (d.length + da.length ≤ (9223372036854775807 : Nat)) then true else false
theorem ev26n (s : Int) (d : List UInt8) (e : Bool) (t : Int) (g : Int) (n : Int) (da : List UInt8) (pa : Int) (de : Int) (so : Bool) (we : Int) (co : Int) (la : Int) (inc : Int) : evFin (cfg Try.prog tab 100000 (gk k54n 30) noLsp 26 ([] : List Blk).length Try.f26.ntmps) ([] : List Blk).length Try.f26.resultTypes.toList Try.f26 [.agg [.int .i64 s, .str d, .bool e], .agg [.int .u8 t, .int .u8 g, .int .i64 n, .str da, .int .i64 pa, .int .i64 de, .bool so, .int .u8 we, .int .u32 co, .int .i64 la, .int .i64 inc, .nil]] [] = bif vev26n_8 s d e t g n da pa de so we co la inc then some (true, AV.tup [AV.agg [AV.int IntKind.i64 (vev26n_0 s d e t g n da pa de so we co la inc), AV.str (vev26n_1 s d e t g n da pa de so we co la inc), AV.bool (vev26n_2 s d e t g n da pa de so we co la inc)], AV.agg [AV.int IntKind.i64 (vev26n_3 s d e t g n da pa de so we co la inc), AV.str (vev26n_4 s d e t g n da pa de so we co la inc), AV.bool (vev26n_5 s d e t g n da pa de so we co la inc)], AV.bool (vev26n_6 s d e t g n da pa de so we co la inc), AV.int IntKind.u32 (vev26n_7 s d e t g n da pa de so we co la inc)], []) else none := by
  have h : evFin (cfg Try.prog tab 100000 (gk k54n 30) noLsp 26 ([] : List Blk).length Try.f26.ntmps) ([] : List Blk).length Try.f26.resultTypes.toList Try.f26 [.agg [.int .i64 s, .str d, .bool e], .agg [.int .u8 t, .int .u8 g, .int .i64 n, .str da, .int .i64 pa, .int .i64 de, .bool so, .int .u8 we, .int .u32 co, .int .i64 la, .int .i64 inc, .nil]] [] = bif vev28_0 s d e != (0 : Int) then some (true, AV.tup [AV.agg [AV.int IntKind.i64 s, AV.str d, AV.bool e], AV.agg [AV.int IntKind.i64 (0 : Int), AV.str (ByteArray.mk #[]).data.toList, AV.bool false], AV.bool false, AV.int IntKind.u32 (0 : Int)], []) else bif !vev54n_1 s d e t g n da pa de so we co la inc then some (true, AV.tup [AV.agg [AV.int IntKind.i64 s, AV.str d, AV.bool e], AV.agg [AV.int IntKind.i64 (0 : Int), AV.str (ByteArray.mk #[]).data.toList, AV.bool false], AV.bool false, AV.int IntKind.u32 (1 : Int)], []) else bif !vev54n_0 s d e t g n da pa de so we co la inc then some (true, AV.tup [AV.agg [AV.int IntKind.i64 s, AV.str d, AV.bool e], AV.agg [AV.int IntKind.i64 (0 : Int), AV.str (ByteArray.mk #[]).data.toList, AV.bool false], AV.bool false, AV.int IntKind.u32 (0 : Int)], []) else bif decide (d.length + da.length ≤ (9223372036854775807 : Nat)) then bif t == (1 : Int) then bif decide (rev26n_1 s d e t g n da pa de so we co la inc > (4096 : Int)) then some (true, AV.tup [AV.agg [AV.int IntKind.i64 s, AV.str d, AV.bool e], AV.agg [AV.int IntKind.i64 (0 : Int), AV.str (ByteArray.mk #[]).data.toList, AV.bool false], AV.bool false, AV.int IntKind.u32 (11 : Int)], []) else bif bits BinOp.and IntKind.u8 g (4 : Int) != (0 : Int) then some (true, AV.tup [AV.agg [AV.int IntKind.i64 (0 : Int), AV.str (ByteArray.mk #[]).data.toList, AV.bool false], AV.agg [AV.int IntKind.i64 n, AV.str (rev26n_0 s d e t g n da pa de so we co la inc), AV.bool (bits BinOp.and IntKind.u8 g (1 : Int) != (0 : Int))], AV.bool true, AV.int IntKind.u32 (0 : Int)], []) else some (true, AV.tup [AV.agg [AV.int IntKind.i64 n, AV.str (rev26n_0 s d e t g n da pa de so we co la inc), AV.bool (bits BinOp.and IntKind.u8 g (1 : Int) != (0 : Int))], AV.agg [AV.int IntKind.i64 (0 : Int), AV.str (ByteArray.mk #[]).data.toList, AV.bool false], AV.bool false, AV.int IntKind.u32 (0 : Int)], []) else bif decide (rev26n_1 s d e t g n da pa de so we co la inc > (4096 : Int)) then some (true, AV.tup [AV.agg [AV.int IntKind.i64 s, AV.str d, AV.bool e], AV.agg [AV.int IntKind.i64 (0 : Int), AV.str (ByteArray.mk #[]).data.toList, AV.bool false], AV.bool false, AV.int IntKind.u32 (11 : Int)], []) else bif bits BinOp.and IntKind.u8 g (4 : Int) != (0 : Int) then some (true, AV.tup [AV.agg [AV.int IntKind.i64 (0 : Int), AV.str (ByteArray.mk #[]).data.toList, AV.bool false], AV.agg [AV.int IntKind.i64 n, AV.str (rev26n_0 s d e t g n da pa de so we co la inc), AV.bool e], AV.bool true, AV.int IntKind.u32 (0 : Int)], []) else some (true, AV.tup [AV.agg [AV.int IntKind.i64 n, AV.str (rev26n_0 s d e t g n da pa de so we co la inc), AV.bool e], AV.agg [AV.int IntKind.i64 (0 : Int), AV.str (ByteArray.mk #[]).data.toList, AV.bool false], AV.bool false, AV.int IntKind.u32 (0 : Int)], []) else none := by kernel_rfl
  rw [h]
  clear h
  unfold vev26n_0 vev26n_1 vev26n_2 vev26n_3 vev26n_4 vev26n_5 vev26n_6 vev26n_7 vev26n_8
  generalize (decide (rev26n_1 s d e t g n da pa de so we co la inc > (4096 : Int))) = c0
  generalize (decide (d.length + da.length ≤ (9223372036854775807 : Nat))) = c1
  generalize (bits BinOp.and IntKind.u8 g (4 : Int) != (0 : Int)) = c2
  generalize (!vev54n_1 s d e t g n da pa de so we co la inc) = c3
  generalize (!vev54n_0 s d e t g n da pa de so we co la inc) = c4
  generalize (vev28_0 s d e != (0 : Int)) = c5
  generalize (t == (1 : Int)) = c6
  cases c5
  · skip
    cases c3
    · skip
      cases c4
      · skip
        cases c1
        · skip
          rfl
        · skip
          cases c6
          · skip
            cases c0
            · skip
              cases c2
              · skip
                rfl
              · skip
                rfl
            · skip
              rfl
          · skip
            cases c0
            · skip
              cases c2
              · skip
                rfl
              · skip
                rfl
            · skip
              rfl
      · skip
        rfl
    · skip
      rfl
  · skip
    rfl
-- spec vev26n_8 s d e t g n da pa de so we co la inc ;; (true, AV.tup [AV.agg [AV.int IntKind.i64 (vev26n_0 s d e t g n da pa de so we co la inc), AV.str (vev26n_1 s d e t g n da pa de so we co la inc), AV.bool (vev26n_2 s d e t g n da pa de so we co la inc)], AV.agg [AV.int IntKind.i64 (vev26n_3 s d e t g n da pa de so we co la inc), AV.str (vev26n_4 s d e t g n da pa de so we co la inc), AV.bool (vev26n_5 s d e t g n da pa de so we co la inc)], AV.bool (vev26n_6 s d e t g n da pa de so we co la inc), AV.int IntKind.u32 (vev26n_7 s d e t g n da pa de so we co la inc)], [])
noncomputable def sp26n : List AV → List Blk → Option (Bool × AV × List Blk)
  | [.agg [.int .i64 s, .str d, .bool e], .agg [.int .u8 t, .int .u8 g, .int .i64 n, .str da, .int .i64 pa, .int .i64 de, .bool so, .int .u8 we, .int .u32 co, .int .i64 la, .int .i64 inc, .nil]], [] => spW (vev26n_8 s d e t g n da pa de so we co la inc) (some ((true, AV.tup [AV.agg [AV.int IntKind.i64 (vev26n_0 s d e t g n da pa de so we co la inc), AV.str (vev26n_1 s d e t g n da pa de so we co la inc), AV.bool (vev26n_2 s d e t g n da pa de so we co la inc)], AV.agg [AV.int IntKind.i64 (vev26n_3 s d e t g n da pa de so we co la inc), AV.str (vev26n_4 s d e t g n da pa de so we co la inc), AV.bool (vev26n_5 s d e t g n da pa de so we co la inc)], AV.bool (vev26n_6 s d e t g n da pa de so we co la inc), AV.int IntKind.u32 (vev26n_7 s d e t g n da pa de so we co la inc)], [])))
  | _, _ => none
noncomputable def k26n : Gam := fun f T C => match Nat.beq f 26 with
  | true => (sp26n T C).or (k54n f T C)
  | false => k54n f T C
theorem k26n_ok : GamOK Try.prog k26n := by
  intro f T C r outs h
  unfold k26n at h
  cases hf : Nat.beq f 26 with
  | false => rw [hf] at h; exact k54n_ok f T C r outs h
  | true =>
    have hf' := Nat.eq_of_beq_eq_true hf
    subst hf'
    rw [hf] at h
    dsimp only at h
    cases hs : sp26n T C with
    | none => rw [hs] at h; exact k54n_ok _ T C r outs h
    | some x =>
      rw [hs] at h
      have hx : x = (true, r, outs) := by simpa using h
      subst hx
      unfold sp26n at hs
      split at hs
      · rename_i s d e t g n da pa de so we co la inc
        obtain ⟨hb, rfl, rfl⟩ := spT_inv hs
        have he := ev26n s d e t g n da pa de so we co la inc
        rw [hb, cond_true] at he
        obtain ⟨r0, o0, h0, he⟩ := evFin_inv he
        obtain ⟨h1, h2⟩ := fn_ok mixed plain (gk_ok k54n_ok 30) Try.func26 (fun c _ => LoopsOK.none (fun _ _ => rfl) c) h0
        exact ⟨h1, h2.fin he⟩
      · cases hs
end Go.Proofs.Gv
