import Derived.Test.YtndephedgodneaaGcBlk
namespace Go.Proofs.Gv
open Go.Proofs
set_option linter.unusedVariables false
noncomputable def vev8_0 (s : Int) (d : List UInt8) (e : Bool) (s2 : Int) (d2 : List UInt8) (e2 : Bool) (t : Int) (g : Int) (sn : Int) (da : List UInt8) (pa : Int) (de : Int) (so : Bool) (we : Int) (co : Int) (la : Int) (inc : Int) (ps : List (List AV)) : Bool := bif bif decide ((↑d.length : Int) > (5000 : Int)) then true else bif decide ((↑da.length : Int) > (5000 : Int)) then true else bif decide ((↑d2.length : Int) > (5000 : Int)) then true else decide ((↑ps.length : Int) > (40 : Int)) then true else bif vev26_0 s d e t g sn da pa de so we co la inc ps == vev27_0 s d e t g sn da pa de so we co la inc ps && (vev26_1 s d e t g sn da pa de so we co la inc ps == vev27_1 s d e t g sn da pa de so we co la inc ps && (vev26_2 s d e t g sn da pa de so we co la inc ps == vev27_2 s d e t g sn da pa de so we co la inc ps && true)) then bif bif true then vev26_3 s d e t g sn da pa de so we co la inc ps == vev27_3 s d e t g sn da pa de so we co la inc ps && (vev26_4 s d e t g sn da pa de so we co la inc ps == vev27_4 s d e t g sn da pa de so we co la inc ps && (vev26_5 s d e t g sn da pa de so we co la inc ps == vev27_5 s d e t g sn da pa de so we co la inc ps && true)) else false then bif bif true then vev26_6 s d e t g sn da pa de so we co la inc ps == vev27_6 s d e t g sn da pa de so we co la inc ps else false then bif bif true then IntKind.i64.wrap (vev26_7 s d e t g sn da pa de so we co la inc ps) == vev27_7 s d e t g sn da pa de so we co la inc ps else false then bif bif true then vev28_0 s d e == vev29_0 s d e else false then bif bif true then vev30_0 s d e == (s != (0 : Int)) else false then bif bif true then vev31_0 s d e s2 d2 e2 == (s == s2 && (d == d2 && (e == e2 && true))) else false then bif true then true else false else false else false else false else false else false else false else false
noncomputable def vev8_1 (s : Int) (d : List UInt8) (e : Bool) (s2 : Int) (d2 : List UInt8) (e2 : Bool) (t : Int) (g : Int) (sn : Int) (da : List UInt8) (pa : Int) (de : Int) (so : Bool) (we : Int) (co : Int) (la : Int) (inc : Int) (ps : List (List AV)) : Bool := bif bif decide ((↑d.length : Int) > (5000 : Int)) then true else bif decide ((↑da.length : Int) > (5000 : Int)) then true else bif decide ((↑d2.length : Int) > (5000 : Int)) then true else decide ((↑ps.length : Int) > (40 : Int)) then true else bif vev26_8 s d e t g sn da pa de so we co la inc ps then bif vev27_8 s d e t g sn da pa de so we co la inc ps then true else false else false
theorem ev8 (s : Int) (d : List UInt8) (e : Bool) (s2 : Int) (d2 : List UInt8) (e2 : Bool) (t : Int) (g : Int) (sn : Int) (da : List UInt8) (pa : Int) (de : Int) (so : Bool) (we : Int) (co : Int) (la : Int) (inc : Int) (ps : List (List AV)) : evFun (cfg Try.prog tab 100000 (gk k31 30) noLsp 8 ([] : List Blk).length Try.f8.ntmps) Try.f8 [.agg [.int .i64 s, .str d, .bool e], .agg [.int .i64 s2, .str d2, .bool e2], .agg [.int .u8 t, .int .u8 g, .int .i64 sn, .str da, .int .i64 pa, .int .i64 de, .bool so, .int .u8 we, .int .u32 co, .int .i64 la, .int .i64 inc, .sl .imm [.int .u16, .int .u32] ps]] [] = bif vev8_1 s d e s2 d2 e2 t g sn da pa de so we co la inc ps then some (AV.bool (vev8_0 s d e s2 d2 e2 t g sn da pa de so we co la inc ps), []) else none := by
  have h : evFun (cfg Try.prog tab 100000 (gk k31 30) noLsp 8 ([] : List Blk).length Try.f8.ntmps) Try.f8 [.agg [.int .i64 s, .str d, .bool e], .agg [.int .i64 s2, .str d2, .bool e2], .agg [.int .u8 t, .int .u8 g, .int .i64 sn, .str da, .int .i64 pa, .int .i64 de, .bool so, .int .u8 we, .int .u32 co, .int .i64 la, .int .i64 inc, .sl .imm [.int .u16, .int .u32] ps]] [] = bif bif decide ((↑d.length : Int) > (5000 : Int)) then true else bif bif false then true else decide ((↑da.length : Int) > (5000 : Int)) then true else bif bif false then true else decide ((↑d2.length : Int) > (5000 : Int)) then true else true then bif bif decide ((↑d.length : Int) > (5000 : Int)) then true else bif bif false then true else decide ((↑da.length : Int) > (5000 : Int)) then true else bif bif false then true else decide ((↑d2.length : Int) > (5000 : Int)) then true else bif false then true else decide ((↑ps.length : Int) > (40 : Int)) then some (AV.bool true, []) else bif vev26_8 s d e t g sn da pa de so we co la inc ps then bif vev27_8 s d e t g sn da pa de so we co la inc ps then bif bif vev26_0 s d e t g sn da pa de so we co la inc ps == vev27_0 s d e t g sn da pa de so we co la inc ps && (vev26_1 s d e t g sn da pa de so we co la inc ps == vev27_1 s d e t g sn da pa de so we co la inc ps && (vev26_2 s d e t g sn da pa de so we co la inc ps == vev27_2 s d e t g sn da pa de so we co la inc ps && true)) then bif bif true then vev26_3 s d e t g sn da pa de so we co la inc ps == vev27_3 s d e t g sn da pa de so we co la inc ps && (vev26_4 s d e t g sn da pa de so we co la inc ps == vev27_4 s d e t g sn da pa de so we co la inc ps && (vev26_5 s d e t g sn da pa de so we co la inc ps == vev27_5 s d e t g sn da pa de so we co la inc ps && true)) else false then bif bif true then vev26_6 s d e t g sn da pa de so we co la inc ps == vev27_6 s d e t g sn da pa de so we co la inc ps else false then bif bif true then IntKind.i64.wrap (vev26_7 s d e t g sn da pa de so we co la inc ps) == vev27_7 s d e t g sn da pa de so we co la inc ps else false then bif bif true then vev28_0 s d e == vev29_0 s d e else false then bif bif true then vev30_0 s d e == (s != (0 : Int)) else false then bif bif true then vev31_0 s d e s2 d2 e2 == (s == s2 && (d == d2 && (e == e2 && true))) else false then true else true else true else true else true else true else true else true then some (AV.bool (bif vev26_0 s d e t g sn da pa de so we co la inc ps == vev27_0 s d e t g sn da pa de so we co la inc ps && (vev26_1 s d e t g sn da pa de so we co la inc ps == vev27_1 s d e t g sn da pa de so we co la inc ps && (vev26_2 s d e t g sn da pa de so we co la inc ps == vev27_2 s d e t g sn da pa de so we co la inc ps && true)) then bif bif true then vev26_3 s d e t g sn da pa de so we co la inc ps == vev27_3 s d e t g sn da pa de so we co la inc ps && (vev26_4 s d e t g sn da pa de so we co la inc ps == vev27_4 s d e t g sn da pa de so we co la inc ps && (vev26_5 s d e t g sn da pa de so we co la inc ps == vev27_5 s d e t g sn da pa de so we co la inc ps && true)) else false then bif bif true then vev26_6 s d e t g sn da pa de so we co la inc ps == vev27_6 s d e t g sn da pa de so we co la inc ps else false then bif bif true then IntKind.i64.wrap (vev26_7 s d e t g sn da pa de so we co la inc ps) == vev27_7 s d e t g sn da pa de so we co la inc ps else false then bif bif true then vev28_0 s d e == vev29_0 s d e else false then bif bif true then vev30_0 s d e == (s != (0 : Int)) else false then bif bif true then vev31_0 s d e s2 d2 e2 == (s == s2 && (d == d2 && (e == e2 && true))) else false then bif true then true else false else false else false else false else false else false else false else false), []) else none else none else none else none := by kernel_rfl
  rw [h]
  clear h
  unfold vev8_0 vev8_1
  generalize (vev26_3 s d e t g sn da pa de so we co la inc ps == vev27_3 s d e t g sn da pa de so we co la inc ps && (vev26_4 s d e t g sn da pa de so we co la inc ps == vev27_4 s d e t g sn da pa de so we co la inc ps && (vev26_5 s d e t g sn da pa de so we co la inc ps == vev27_5 s d e t g sn da pa de so we co la inc ps && true))) = c0
  generalize (vev26_0 s d e t g sn da pa de so we co la inc ps == vev27_0 s d e t g sn da pa de so we co la inc ps && (vev26_1 s d e t g sn da pa de so we co la inc ps == vev27_1 s d e t g sn da pa de so we co la inc ps && (vev26_2 s d e t g sn da pa de so we co la inc ps == vev27_2 s d e t g sn da pa de so we co la inc ps && true))) = c1
  generalize (vev31_0 s d e s2 d2 e2 == (s == s2 && (d == d2 && (e == e2 && true)))) = c2
  generalize (IntKind.i64.wrap (vev26_7 s d e t g sn da pa de so we co la inc ps) == vev27_7 s d e t g sn da pa de so we co la inc ps) = c3
  generalize (vev26_6 s d e t g sn da pa de so we co la inc ps == vev27_6 s d e t g sn da pa de so we co la inc ps) = c4
  generalize (decide ((↑ps.length : Int) > (40 : Int))) = c5
  generalize (decide ((↑d2.length : Int) > (5000 : Int))) = c6
  generalize (decide ((↑d.length : Int) > (5000 : Int))) = c7
  generalize (decide ((↑da.length : Int) > (5000 : Int))) = c8
  generalize (vev30_0 s d e == (s != (0 : Int))) = c9
  generalize (vev26_8 s d e t g sn da pa de so we co la inc ps) = c10
  generalize (vev27_8 s d e t g sn da pa de so we co la inc ps) = c11
  generalize (vev28_0 s d e == vev29_0 s d e) = c12
  cases c7
  · skip
    cases c8
    · skip
      cases c6
      · skip
        cases c5
        · skip
          cases c10
          · skip
            rfl
          · skip
            cases c11
            · skip
              rfl
            · skip
              cases c1
              · skip
                rfl
              · skip
                cases c0
                · skip
                  rfl
                · skip
                  cases c4
                  · skip
                    rfl
                  · skip
                    cases c3
                    · skip
                      rfl
                    · skip
                      cases c12
                      · skip
                        rfl
                      · skip
                        cases c9
                        · skip
                          rfl
                        · skip
                          cases c2
                          · skip
                            rfl
                          · skip
                            rfl
        · skip
          rfl
      · skip
        rfl
    · skip
      rfl
  · skip
    rfl
-- spec vev8_1 s d e s2 d2 e2 t g sn da pa de so we co la inc ps ;; (AV.bool (vev8_0 s d e s2 d2 e2 t g sn da pa de so we co la inc ps), [])
end Go.Proofs.Gv
