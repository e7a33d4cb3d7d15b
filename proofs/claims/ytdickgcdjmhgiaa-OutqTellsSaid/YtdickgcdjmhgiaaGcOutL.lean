import Derived.Test.YtdickgcdjmhgiaaGdOut
namespace Go.Proofs.Gv
open Go.Proofs
set_option linter.unusedVariables false
noncomputable def vev4_0 (es : List (List AV)) (a : Int) (b : Int) (es2 : List (List AV)) (a2 : Int) (b2 : Int) : Bool := bif bif vev7_1 es a b then bif !vev7_0 es a b then true else bif vev7_1 es2 a2 b2 then !vev7_0 es2 a2 b2 else false else false then true else bif vev14_1 es a b then bif vev15_1 es a b then bif vev14_0 es a b == vev15_0 es a b then bif vev16_1 es a b then bif vev17_1 es a b then bif bif true then vev16_0 es a b == vev17_0 es a b else false then bif vev18_1 es a b then bif vev19_1 es a b then bif bif true then vev18_0 es a b == vev19_0 es a b else false then bif vev20_1 es a b es2 a2 b2 then bif vev13_1 es a b es2 a2 b2 then bif bif true then vev20_0 es a b es2 a2 b2 == vev13_0 es a b es2 a2 b2 else false then bif true then true else false else false else false else false else false else false else false else false else false else false else false else false else false
noncomputable def vev4_1 (es : List (List AV)) (a : Int) (b : Int) (es2 : List (List AV)) (a2 : Int) (b2 : Int) : Bool := bif bif vev7_1 es a b then bif !vev7_0 es a b then true else vev7_1 es2 a2 b2 else false then bif bif vev7_1 es a b then bif !vev7_0 es a b then true else bif vev7_1 es2 a2 b2 then !vev7_0 es2 a2 b2 else false else false then true else bif bif vev14_1 es a b then bif vev15_1 es a b then bif vev14_0 es a b == vev15_0 es a b then bif vev16_1 es a b then bif vev17_1 es a b then bif vev16_0 es a b == vev17_0 es a b then bif vev18_1 es a b then bif vev19_1 es a b then bif vev18_0 es a b == vev19_0 es a b then bif vev20_1 es a b es2 a2 b2 then vev13_1 es a b es2 a2 b2 else false else true else false else false else true else false else false else true else false else false then true else false else false
theorem ev4 (es : List (List AV)) (a : Int) (b : Int) (es2 : List (List AV)) (a2 : Int) (b2 : Int) : evFun (cfg Try.prog tab 100000 (gk k8 30) noLsp 4 ([] : List Blk).length Try.f4.ntmps) Try.f4 [.agg [.sl .imm [.str] es, .int .i64 a, .int .i64 b], .agg [.sl .imm [.str] es2, .int .i64 a2, .int .i64 b2]] [] = bif vev4_1 es a b es2 a2 b2 then some (AV.bool (vev4_0 es a b es2 a2 b2), []) else none := by
  have h : evFun (cfg Try.prog tab 100000 (gk k8 30) noLsp 4 ([] : List Blk).length Try.f4.ntmps) Try.f4 [.agg [.sl .imm [.str] es, .int .i64 a, .int .i64 b], .agg [.sl .imm [.str] es2, .int .i64 a2, .int .i64 b2]] [] = bif bif vev7_1 es a b then bif !vev7_0 es a b then true else bif vev7_1 es2 a2 b2 then true else false else false then bif bif vev7_1 es a b then bif !vev7_0 es a b then true else bif vev7_1 es2 a2 b2 then bif false then true else !vev7_0 es2 a2 b2 else false else false then some (AV.bool true, []) else bif bif vev14_1 es a b then bif vev15_1 es a b then bif vev14_0 es a b == vev15_0 es a b then bif vev16_1 es a b then bif vev17_1 es a b then bif bif true then vev16_0 es a b == vev17_0 es a b else false then bif vev18_1 es a b then bif vev19_1 es a b then bif bif true then vev18_0 es a b == vev19_0 es a b else false then bif vev20_1 es a b es2 a2 b2 then bif vev13_1 es a b es2 a2 b2 then bif bif true then vev20_0 es a b es2 a2 b2 == vev13_0 es a b es2 a2 b2 else false then true else true else false else false else true else false else false else true else false else false else true else false else false then some (AV.bool (bif vev14_1 es a b then bif vev15_1 es a b then bif vev14_0 es a b == vev15_0 es a b then bif vev16_1 es a b then bif vev17_1 es a b then bif bif true then vev16_0 es a b == vev17_0 es a b else false then bif vev18_1 es a b then bif vev19_1 es a b then bif bif true then vev18_0 es a b == vev19_0 es a b else false then bif vev20_1 es a b es2 a2 b2 then bif vev13_1 es a b es2 a2 b2 then bif bif true then vev20_0 es a b es2 a2 b2 == vev13_0 es a b es2 a2 b2 else false then bif true then true else false else false else false else false else false else false else false else false else false else false else false else false else false), []) else none else none := by kernel_rfl
  rw [h]
  clear h
  unfold vev4_0 vev4_1
  generalize (vev20_0 es a b es2 a2 b2 == vev13_0 es a b es2 a2 b2) = c0
  generalize (vev16_0 es a b == vev17_0 es a b) = c1
  generalize (vev14_0 es a b == vev15_0 es a b) = c2
  generalize (vev18_0 es a b == vev19_0 es a b) = c3
  generalize (vev20_1 es a b es2 a2 b2) = c4
  generalize (vev13_1 es a b es2 a2 b2) = c5
  generalize (!vev7_0 es a b) = c6
  generalize (!vev7_0 es2 a2 b2) = c7
  generalize (vev7_1 es a b) = c8
  generalize (vev17_1 es a b) = c9
  generalize (vev14_1 es a b) = c10
  generalize (vev18_1 es a b) = c11
  generalize (vev19_1 es a b) = c12
  generalize (vev15_1 es a b) = c13
  generalize (vev7_1 es2 a2 b2) = c14
  generalize (vev16_1 es a b) = c15
  cases c8
  · skip
    rfl
  · skip
    cases c6
    · skip
      cases c14
      · skip
        rfl
      · skip
        cases c7
        · skip
          cases c10
          · skip
            rfl
          · skip
            cases c13
            · skip
              rfl
            · skip
              cases c2
              · skip
                rfl
              · skip
                cases c15
                · skip
                  rfl
                · skip
                  cases c9
                  · skip
                    rfl
                  · skip
                    cases c1
                    · skip
                      rfl
                    · skip
                      cases c11
                      · skip
                        rfl
                      · skip
                        cases c12
                        · skip
                          rfl
                        · skip
                          cases c3
                          · skip
                            rfl
                          · skip
                            cases c4
                            · skip
                              rfl
                            · skip
                              cases c5
                              · skip
                                rfl
                              · skip
                                cases c0
                                · skip
                                  rfl
                                · skip
                                  rfl
        · skip
          rfl
    · skip
      rfl
-- spec vev4_1 es a b es2 a2 b2 ;; (AV.bool (vev4_0 es a b es2 a2 b2), [])
end Go.Proofs.Gv
