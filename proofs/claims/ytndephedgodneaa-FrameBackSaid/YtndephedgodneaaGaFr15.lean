import Derived.Test.YtndephedgodneaaGt
import Derived.KernelRfl
import Derived.Test.YtndephedgodneaaGwF
import Derived.Test.YtndephedgodneaaGaFr14
namespace Go.Proofs.Gv
open Go.Proofs
set_option linter.unusedVariables false
noncomputable def rev7e_0 (t : Int) (g : Int) (n : Int) (d : List UInt8) (pa : Int) (de : Int) (so : Bool) (we : Int) (co : Int) (la : Int) (inc : Int) (ps : List (List AV)) (sp : Int) : Int := vev19_0 t g n d pa de so we co la inc ps
noncomputable def rev7e_1 (t : Int) (g : Int) (n : Int) (d : List UInt8) (pa : Int) (de : Int) (so : Bool) (we : Int) (co : Int) (la : Int) (inc : Int) (ps : List (List AV)) (sp : Int) : Int := (↑((rev7e_0 t g n d pa de so we co la inc ps sp).toNat - (1 : Nat) + (1 : Nat)) : Int)
noncomputable def vev7e_0 (t : Int) (g : Int) (n : Int) (d : List UInt8) (pa : Int) (de : Int) (so : Bool) (we : Int) (co : Int) (la : Int) (inc : Int) (ps : List (List AV)) (sp : Int) : Bool := bif bif !vev16_0 t g n d pa de so we co la inc ps then true else rev7e_1 t g n d pa de so we co la inc ps sp != (0 : Int) then bif vev19_1 t g n d pa de so we co la inc ps then bif bif false then true else bif true then rev7e_0 t g n d pa de so we co la inc ps sp == rev7e_1 t g n d pa de so we co la inc ps sp else false then bif true then true else false else false else false else false
noncomputable def vev7e_1 (t : Int) (g : Int) (n : Int) (d : List UInt8) (pa : Int) (de : Int) (so : Bool) (we : Int) (co : Int) (la : Int) (inc : Int) (ps : List (List AV)) (sp : Int) : Bool := bif vev17r_2 t g n d pa de so we co la inc ps && decide ((1 : Int) ≤ rev7e_0 t g n d pa de so we co la inc ps sp) then bif bif !vev16_0 t g n d pa de so we co la inc ps then true else rev7e_1 t g n d pa de so we co la inc ps sp != (0 : Int) then bif vev19_1 t g n d pa de so we co la inc ps then true else false else true else false
theorem ev7e (t : Int) (g : Int) (n : Int) (d : List UInt8) (pa : Int) (de : Int) (so : Bool) (we : Int) (co : Int) (la : Int) (inc : Int) (ps : List (List AV)) (sp : Int) : evFun (cfg Try.prog tab 100000 (gk k17e 30) noLsp 7 ([] : List Blk).length Try.f7.ntmps) Try.f7 [.agg [.int .u8 t, .int .u8 g, .int .i64 n, .str d, .int .i64 pa, .int .i64 de, .bool so, .int .u8 we, .int .u32 co, .int .i64 la, .int .i64 inc, .sl .imm [.int .u16, .int .u32] ps], .int .u8 sp] [] = bif vev7e_1 t g n d pa de so we co la inc ps sp then some (AV.bool (vev7e_0 t g n d pa de so we co la inc ps sp), []) else none := by
  have h : evFun (cfg Try.prog tab 100000 (gk k17e 30) noLsp 7 ([] : List Blk).length Try.f7.ntmps) Try.f7 [.agg [.int .u8 t, .int .u8 g, .int .i64 n, .str d, .int .i64 pa, .int .i64 de, .bool so, .int .u8 we, .int .u32 co, .int .i64 la, .int .i64 inc, .sl .imm [.int .u16, .int .u32] ps], .int .u8 sp] [] = bif vev17r_2 t g n d pa de so we co la inc ps && decide ((1 : Int) ≤ rev7e_0 t g n d pa de so we co la inc ps sp) then bif bif !vev16_0 t g n d pa de so we co la inc ps then true else true then bif bif !vev16_0 t g n d pa de so we co la inc ps then true else bif false then true else rev7e_1 t g n d pa de so we co la inc ps sp != (0 : Int) then bif bif vev19_1 t g n d pa de so we co la inc ps then bif bif false then true else bif true then rev7e_0 t g n d pa de so we co la inc ps sp == rev7e_1 t g n d pa de so we co la inc ps sp else false then true else true else false then some (AV.bool (bif vev19_1 t g n d pa de so we co la inc ps then bif bif false then true else bif true then rev7e_0 t g n d pa de so we co la inc ps sp == rev7e_1 t g n d pa de so we co la inc ps sp else false then bif true then true else false else false else false), []) else none else some (AV.bool false, []) else none else none := by kernel_rfl
  rw [h]
  clear h
  unfold vev7e_0 vev7e_1
  generalize (vev17r_2 t g n d pa de so we co la inc ps && decide ((1 : Int) ≤ rev7e_0 t g n d pa de so we co la inc ps sp)) = c0
  generalize (rev7e_0 t g n d pa de so we co la inc ps sp == rev7e_1 t g n d pa de so we co la inc ps sp) = c1
  generalize (rev7e_1 t g n d pa de so we co la inc ps sp != (0 : Int)) = c2
  generalize (!vev16_0 t g n d pa de so we co la inc ps) = c3
  generalize (vev19_1 t g n d pa de so we co la inc ps) = c4
  cases c0
  · skip
    rfl
  · skip
    cases c3
    · skip
      cases c2
      · skip
        rfl
      · skip
        cases c4
        · skip
          rfl
        · skip
          cases c1
          · skip
            rfl
          · skip
            rfl
    · skip
      cases c4
      · skip
        rfl
      · skip
        cases c1
        · skip
          rfl
        · skip
          rfl
-- spec vev7e_1 t g n d pa de so we co la inc ps sp ;; (AV.bool (vev7e_0 t g n d pa de so we co la inc ps sp), [])
-- law 7e: loops (fun c _ => LoopsOK.none (fun _ _ => rfl) c) gam k17e
end Go.Proofs.Gv
