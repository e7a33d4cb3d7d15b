import Derived.Test.YtdickgcdjmhgiaaGhOut
namespace Go.Proofs.Gv
open Go.Proofs
set_option linter.unusedVariables false
noncomputable def vev6_0 (es : List (List AV)) (a : Int) (b : Int) (n : Int) (m : Int) : Bool := bif bif vev7_1 es a b then bif !vev7_0 es a b then true else bif vev14_1 es a b then vev14_0 es a b != (0 : Int) else false else false then true else bif (vev11_2 es a b (IntKind.i64.wrap (IntKind.i64.wrap n + IntKind.i64.wrap m))).all isB then bif (vev11_2 es a b (IntKind.i64.wrap n)).all isB then bif (vev11_2 (vev11_0 es a b (IntKind.i64.wrap n)) a (vev11_1 es a b (IntKind.i64.wrap n)) (IntKind.i64.wrap m)).all isB then bif decide ((List.map byteOf (vev11_2 es a b (IntKind.i64.wrap n))).length + (List.map byteOf (vev11_2 (vev11_0 es a b (IntKind.i64.wrap n)) a (vev11_1 es a b (IntKind.i64.wrap n)) (IntKind.i64.wrap m))).length ≤ (9223372036854775807 : Nat)) then bif List.map byteOf (vev11_2 es a b (IntKind.i64.wrap (IntKind.i64.wrap n + IntKind.i64.wrap m))) == List.map byteOf (vev11_2 es a b (IntKind.i64.wrap n)) ++ List.map byteOf (vev11_2 (vev11_0 es a b (IntKind.i64.wrap n)) a (vev11_1 es a b (IntKind.i64.wrap n)) (IntKind.i64.wrap m)) then bif vev20_1 (vev11_0 es a b (IntKind.i64.wrap (IntKind.i64.wrap n + IntKind.i64.wrap m))) a (vev11_1 es a b (IntKind.i64.wrap (IntKind.i64.wrap n + IntKind.i64.wrap m))) (vev11_0 (vev11_0 es a b (IntKind.i64.wrap n)) a (vev11_1 es a b (IntKind.i64.wrap n)) (IntKind.i64.wrap m)) a (vev11_1 (vev11_0 es a b (IntKind.i64.wrap n)) a (vev11_1 es a b (IntKind.i64.wrap n)) (IntKind.i64.wrap m)) then bif bif true then vev20_0 (vev11_0 es a b (IntKind.i64.wrap (IntKind.i64.wrap n + IntKind.i64.wrap m))) a (vev11_1 es a b (IntKind.i64.wrap (IntKind.i64.wrap n + IntKind.i64.wrap m))) (vev11_0 (vev11_0 es a b (IntKind.i64.wrap n)) a (vev11_1 es a b (IntKind.i64.wrap n)) (IntKind.i64.wrap m)) a (vev11_1 (vev11_0 es a b (IntKind.i64.wrap n)) a (vev11_1 es a b (IntKind.i64.wrap n)) (IntKind.i64.wrap m)) else false then bif bif true then a == a else false then bif vev18_1 (vev11_0 es a b (IntKind.i64.wrap (IntKind.i64.wrap n + IntKind.i64.wrap m))) a (vev11_1 es a b (IntKind.i64.wrap (IntKind.i64.wrap n + IntKind.i64.wrap m))) then bif vev18_1 es a b then bif bif true then vev18_0 (vev11_0 es a b (IntKind.i64.wrap (IntKind.i64.wrap n + IntKind.i64.wrap m))) a (vev11_1 es a b (IntKind.i64.wrap (IntKind.i64.wrap n + IntKind.i64.wrap m))) == IntKind.i64.wrap (vev18_0 es a b + (↑(vev11_2 es a b (IntKind.i64.wrap (IntKind.i64.wrap n + IntKind.i64.wrap m))).length : Int)) else false then bif true then true else false else false else false else false else false else false else false else false else false else false else false else false
noncomputable def vev6_1 (es : List (List AV)) (a : Int) (b : Int) (n : Int) (m : Int) : Bool := bif bif vev7_1 es a b then bif !vev7_0 es a b then true else vev14_1 es a b else false then bif bif vev7_1 es a b then bif !vev7_0 es a b then true else bif vev14_1 es a b then vev14_0 es a b != (0 : Int) else false else false then true else bif vev11_3 es a b (IntKind.i64.wrap (IntKind.i64.wrap n + IntKind.i64.wrap m)) then bif vev11_3 es a b (IntKind.i64.wrap n) then bif vev11_3 (vev11_0 es a b (IntKind.i64.wrap n)) a (vev11_1 es a b (IntKind.i64.wrap n)) (IntKind.i64.wrap m) then bif bif (vev11_2 es a b (IntKind.i64.wrap (IntKind.i64.wrap n + IntKind.i64.wrap m))).all isB then bif (vev11_2 es a b (IntKind.i64.wrap n)).all isB then bif (vev11_2 (vev11_0 es a b (IntKind.i64.wrap n)) a (vev11_1 es a b (IntKind.i64.wrap n)) (IntKind.i64.wrap m)).all isB then bif decide ((List.map byteOf (vev11_2 es a b (IntKind.i64.wrap n))).length + (List.map byteOf (vev11_2 (vev11_0 es a b (IntKind.i64.wrap n)) a (vev11_1 es a b (IntKind.i64.wrap n)) (IntKind.i64.wrap m))).length ≤ (9223372036854775807 : Nat)) then bif List.map byteOf (vev11_2 es a b (IntKind.i64.wrap (IntKind.i64.wrap n + IntKind.i64.wrap m))) == List.map byteOf (vev11_2 es a b (IntKind.i64.wrap n)) ++ List.map byteOf (vev11_2 (vev11_0 es a b (IntKind.i64.wrap n)) a (vev11_1 es a b (IntKind.i64.wrap n)) (IntKind.i64.wrap m)) then bif vev20_1 (vev11_0 es a b (IntKind.i64.wrap (IntKind.i64.wrap n + IntKind.i64.wrap m))) a (vev11_1 es a b (IntKind.i64.wrap (IntKind.i64.wrap n + IntKind.i64.wrap m))) (vev11_0 (vev11_0 es a b (IntKind.i64.wrap n)) a (vev11_1 es a b (IntKind.i64.wrap n)) (IntKind.i64.wrap m)) a (vev11_1 (vev11_0 es a b (IntKind.i64.wrap n)) a (vev11_1 es a b (IntKind.i64.wrap n)) (IntKind.i64.wrap m)) then bif vev20_0 (vev11_0 es a b (IntKind.i64.wrap (IntKind.i64.wrap n + IntKind.i64.wrap m))) a (vev11_1 es a b (IntKind.i64.wrap (IntKind.i64.wrap n + IntKind.i64.wrap m))) (vev11_0 (vev11_0 es a b (IntKind.i64.wrap n)) a (vev11_1 es a b (IntKind.i64.wrap n)) (IntKind.i64.wrap m)) a (vev11_1 (vev11_0 es a b (IntKind.i64.wrap n)) a (vev11_1 es a b (IntKind.i64.wrap n)) (IntKind.i64.wrap m)) then bif a == a then bif vev18_1 (vev11_0 es a b (IntKind.i64.wrap (IntKind.i64.wrap n + IntKind.i64.wrap m))) a (vev11_1 es a b (IntKind.i64.wrap (IntKind.i64.wrap n + IntKind.i64.wrap m))) then vev18_1 es a b else false else true else true else false else true else false else false else false else false then true else false else false else false else false else false
theorem ev6 (es : List (List AV)) (a : Int) (b : Int) (n : Int) (m : Int) : evFun (cfg Try.prog tab 100000 (gk k13t 30) noLsp 6 ([] : List Blk).length Try.f6.ntmps) Try.f6 [.agg [.sl .imm [.str] es, .int .i64 a, .int .i64 b], .int .u16 n, .int .u16 m] [] = bif vev6_1 es a b n m then some (AV.bool (vev6_0 es a b n m), []) else none := by
  have h : evFun (cfg Try.prog tab 100000 (gk k13t 30) noLsp 6 ([] : List Blk).length Try.f6.ntmps) Try.f6 [.agg [.sl .imm [.str] es, .int .i64 a, .int .i64 b], .int .u16 n, .int .u16 m] [] = bif bif vev7_1 es a b then bif !vev7_0 es a b then true else bif vev14_1 es a b then true else false else false then bif bif vev7_1 es a b then bif !vev7_0 es a b then true else bif vev14_1 es a b then bif false then true else vev14_0 es a b != (0 : Int) else false else false then some (AV.bool true, []) else bif vev11_3 es a b (IntKind.i64.wrap (IntKind.i64.wrap n + IntKind.i64.wrap m)) then bif vev11_3 es a b (IntKind.i64.wrap n) then bif vev11_3 (vev11_0 es a b (IntKind.i64.wrap n)) a (vev11_1 es a b (IntKind.i64.wrap n)) (IntKind.i64.wrap m) then bif bif (vev11_2 es a b (IntKind.i64.wrap (IntKind.i64.wrap n + IntKind.i64.wrap m))).all isB then bif (vev11_2 es a b (IntKind.i64.wrap n)).all isB then bif (vev11_2 (vev11_0 es a b (IntKind.i64.wrap n)) a (vev11_1 es a b (IntKind.i64.wrap n)) (IntKind.i64.wrap m)).all isB then bif decide ((List.map byteOf (vev11_2 es a b (IntKind.i64.wrap n))).length + (List.map byteOf (vev11_2 (vev11_0 es a b (IntKind.i64.wrap n)) a (vev11_1 es a b (IntKind.i64.wrap n)) (IntKind.i64.wrap m))).length ≤ (9223372036854775807 : Nat)) then bif List.map byteOf (vev11_2 es a b (IntKind.i64.wrap (IntKind.i64.wrap n + IntKind.i64.wrap m))) == List.map byteOf (vev11_2 es a b (IntKind.i64.wrap n)) ++ List.map byteOf (vev11_2 (vev11_0 es a b (IntKind.i64.wrap n)) a (vev11_1 es a b (IntKind.i64.wrap n)) (IntKind.i64.wrap m)) then bif vev20_1 (vev11_0 es a b (IntKind.i64.wrap (IntKind.i64.wrap n + IntKind.i64.wrap m))) a (vev11_1 es a b (IntKind.i64.wrap (IntKind.i64.wrap n + IntKind.i64.wrap m))) (vev11_0 (vev11_0 es a b (IntKind.i64.wrap n)) a (vev11_1 es a b (IntKind.i64.wrap n)) (IntKind.i64.wrap m)) a (vev11_1 (vev11_0 es a b (IntKind.i64.wrap n)) a (vev11_1 es a b (IntKind.i64.wrap n)) (IntKind.i64.wrap m)) then bif bif true then vev20_0 (vev11_0 es a b (IntKind.i64.wrap (IntKind.i64.wrap n + IntKind.i64.wrap m))) a (vev11_1 es a b (IntKind.i64.wrap (IntKind.i64.wrap n + IntKind.i64.wrap m))) (vev11_0 (vev11_0 es a b (IntKind.i64.wrap n)) a (vev11_1 es a b (IntKind.i64.wrap n)) (IntKind.i64.wrap m)) a (vev11_1 (vev11_0 es a b (IntKind.i64.wrap n)) a (vev11_1 es a b (IntKind.i64.wrap n)) (IntKind.i64.wrap m)) else false then bif bif true then a == a else false then bif vev18_1 (vev11_0 es a b (IntKind.i64.wrap (IntKind.i64.wrap n + IntKind.i64.wrap m))) a (vev11_1 es a b (IntKind.i64.wrap (IntKind.i64.wrap n + IntKind.i64.wrap m))) then bif vev18_1 es a b then bif bif true then vev18_0 (vev11_0 es a b (IntKind.i64.wrap (IntKind.i64.wrap n + IntKind.i64.wrap m))) a (vev11_1 es a b (IntKind.i64.wrap (IntKind.i64.wrap n + IntKind.i64.wrap m))) == IntKind.i64.wrap (vev18_0 es a b + (↑(vev11_2 es a b (IntKind.i64.wrap (IntKind.i64.wrap n + IntKind.i64.wrap m))).length : Int)) else false then true else true else false else false else true else true else false else true else false else false else false else false then some (AV.bool (bif (vev11_2 es a b (IntKind.i64.wrap (IntKind.i64.wrap n + IntKind.i64.wrap m))).all isB then bif (vev11_2 es a b (IntKind.i64.wrap n)).all isB then bif (vev11_2 (vev11_0 es a b (IntKind.i64.wrap n)) a (vev11_1 es a b (IntKind.i64.wrap n)) (IntKind.i64.wrap m)).all isB then bif decide ((List.map byteOf (vev11_2 es a b (IntKind.i64.wrap n))).length + (List.map byteOf (vev11_2 (vev11_0 es a b (IntKind.i64.wrap n)) a (vev11_1 es a b (IntKind.i64.wrap n)) (IntKind.i64.wrap m))).length ≤ (9223372036854775807 : Nat)) then bif List.map byteOf (vev11_2 es a b (IntKind.i64.wrap (IntKind.i64.wrap n + IntKind.i64.wrap m))) == List.map byteOf (vev11_2 es a b (IntKind.i64.wrap n)) ++ List.map byteOf (vev11_2 (vev11_0 es a b (IntKind.i64.wrap n)) a (vev11_1 es a b (IntKind.i64.wrap n)) (IntKind.i64.wrap m)) then bif vev20_1 (vev11_0 es a b (IntKind.i64.wrap (IntKind.i64.wrap n + IntKind.i64.wrap m))) a (vev11_1 es a b (IntKind.i64.wrap (IntKind.i64.wrap n + IntKind.i64.wrap m))) (vev11_0 (vev11_0 es a b (IntKind.i64.wrap n)) a (vev11_1 es a b (IntKind.i64.wrap n)) (IntKind.i64.wrap m)) a (vev11_1 (vev11_0 es a b (IntKind.i64.wrap n)) a (vev11_1 es a b (IntKind.i64.wrap n)) (IntKind.i64.wrap m)) then bif bif true then vev20_0 (vev11_0 es a b (IntKind.i64.wrap (IntKind.i64.wrap n + IntKind.i64.wrap m))) a (vev11_1 es a b (IntKind.i64.wrap (IntKind.i64.wrap n + IntKind.i64.wrap m))) (vev11_0 (vev11_0 es a b (IntKind.i64.wrap n)) a (vev11_1 es a b (IntKind.i64.wrap n)) (IntKind.i64.wrap m)) a (vev11_1 (vev11_0 es a b (IntKind.i64.wrap n)) a (vev11_1 es a b (IntKind.i64.wrap n)) (IntKind.i64.wrap m)) else false then bif bif true then a == a else false then bif vev18_1 (vev11_0 es a b (IntKind.i64.wrap (IntKind.i64.wrap n + IntKind.i64.wrap m))) a (vev11_1 es a b (IntKind.i64.wrap (IntKind.i64.wrap n + IntKind.i64.wrap m))) then bif vev18_1 es a b then bif bif true then vev18_0 (vev11_0 es a b (IntKind.i64.wrap (IntKind.i64.wrap n + IntKind.i64.wrap m))) a (vev11_1 es a b (IntKind.i64.wrap (IntKind.i64.wrap n + IntKind.i64.wrap m))) == IntKind.i64.wrap (vev18_0 es a b + (↑(vev11_2 es a b (IntKind.i64.wrap (IntKind.i64.wrap n + IntKind.i64.wrap m))).length : Int)) else false then bif true then true else false else false else false else false else false else false else false else false else false else false else false else false), []) else none else none else none else none else none := by kernel_rfl
  rw [h]
  clear h
  unfold vev6_0 vev6_1
  generalize (decide ((List.map byteOf (vev11_2 es a b (IntKind.i64.wrap n))).length + (List.map byteOf (vev11_2 (vev11_0 es a b (IntKind.i64.wrap n)) a (vev11_1 es a b (IntKind.i64.wrap n)) (IntKind.i64.wrap m))).length ≤ (9223372036854775807 : Nat))) = c0
  generalize (vev18_0 (vev11_0 es a b (IntKind.i64.wrap (IntKind.i64.wrap n + IntKind.i64.wrap m))) a (vev11_1 es a b (IntKind.i64.wrap (IntKind.i64.wrap n + IntKind.i64.wrap m))) == IntKind.i64.wrap (vev18_0 es a b + (↑(vev11_2 es a b (IntKind.i64.wrap (IntKind.i64.wrap n + IntKind.i64.wrap m))).length : Int))) = c1
  generalize (List.map byteOf (vev11_2 es a b (IntKind.i64.wrap (IntKind.i64.wrap n + IntKind.i64.wrap m))) == List.map byteOf (vev11_2 es a b (IntKind.i64.wrap n)) ++ List.map byteOf (vev11_2 (vev11_0 es a b (IntKind.i64.wrap n)) a (vev11_1 es a b (IntKind.i64.wrap n)) (IntKind.i64.wrap m))) = c2
  generalize (vev20_1 (vev11_0 es a b (IntKind.i64.wrap (IntKind.i64.wrap n + IntKind.i64.wrap m))) a (vev11_1 es a b (IntKind.i64.wrap (IntKind.i64.wrap n + IntKind.i64.wrap m))) (vev11_0 (vev11_0 es a b (IntKind.i64.wrap n)) a (vev11_1 es a b (IntKind.i64.wrap n)) (IntKind.i64.wrap m)) a (vev11_1 (vev11_0 es a b (IntKind.i64.wrap n)) a (vev11_1 es a b (IntKind.i64.wrap n)) (IntKind.i64.wrap m))) = c3
  generalize (vev20_0 (vev11_0 es a b (IntKind.i64.wrap (IntKind.i64.wrap n + IntKind.i64.wrap m))) a (vev11_1 es a b (IntKind.i64.wrap (IntKind.i64.wrap n + IntKind.i64.wrap m))) (vev11_0 (vev11_0 es a b (IntKind.i64.wrap n)) a (vev11_1 es a b (IntKind.i64.wrap n)) (IntKind.i64.wrap m)) a (vev11_1 (vev11_0 es a b (IntKind.i64.wrap n)) a (vev11_1 es a b (IntKind.i64.wrap n)) (IntKind.i64.wrap m))) = c4
  generalize (vev18_1 (vev11_0 es a b (IntKind.i64.wrap (IntKind.i64.wrap n + IntKind.i64.wrap m))) a (vev11_1 es a b (IntKind.i64.wrap (IntKind.i64.wrap n + IntKind.i64.wrap m)))) = c5
  generalize ((vev11_2 (vev11_0 es a b (IntKind.i64.wrap n)) a (vev11_1 es a b (IntKind.i64.wrap n)) (IntKind.i64.wrap m)).all isB) = c6
  generalize ((vev11_2 es a b (IntKind.i64.wrap (IntKind.i64.wrap n + IntKind.i64.wrap m))).all isB) = c7
  generalize (vev11_3 es a b (IntKind.i64.wrap (IntKind.i64.wrap n + IntKind.i64.wrap m))) = c8
  generalize (vev11_3 (vev11_0 es a b (IntKind.i64.wrap n)) a (vev11_1 es a b (IntKind.i64.wrap n)) (IntKind.i64.wrap m)) = c9
  generalize (vev14_0 es a b != (0 : Int)) = c10
  generalize ((vev11_2 es a b (IntKind.i64.wrap n)).all isB) = c11
  generalize (vev11_3 es a b (IntKind.i64.wrap n)) = c12
  generalize (a == a) = c13
  generalize (!vev7_0 es a b) = c14
  generalize (vev14_1 es a b) = c15
  generalize (vev7_1 es a b) = c16
  generalize (vev18_1 es a b) = c17
  cases c16
  · skip
    rfl
  · skip
    cases c14
    · skip
      cases c15
      · skip
        rfl
      · skip
        cases c10
        · skip
          cases c8
          · skip
            rfl
          · skip
            cases c12
            · skip
              rfl
            · skip
              cases c9
              · skip
                rfl
              · skip
                cases c7
                · skip
                  rfl
                · skip
                  cases c11
                  · skip
                    rfl
                  · skip
                    cases c6
                    · skip
                      rfl
                    · skip
                      cases c0
                      · skip
                        rfl
                      · skip
                        cases c2
                        · skip
                          rfl
                        · skip
                          cases c3
                          · skip
                            rfl
                          · skip
                            cases c4
                            · skip
                              rfl
                            · skip
                              cases c13
                              · skip
                                rfl
                              · skip
                                cases c5
                                · skip
                                  rfl
                                · skip
                                  cases c17
                                  · skip
                                    rfl
                                  · skip
                                    cases c1
                                    · skip
                                      rfl
                                    · skip
                                      rfl
        · skip
          rfl
    · skip
      rfl
-- spec vev6_1 es a b n m ;; (AV.bool (vev6_0 es a b n m), [])
end Go.Proofs.Gv
