import Derived.Test.YtdickgcdjmhgiaaGhOut
namespace Go.Proofs.Gv
open Go.Proofs
set_option linter.unusedVariables false
noncomputable def vev3_0 (es : List (List AV)) (a : Int) (b : Int) (bs : List (List AV)) (n : Int) : Bool := bif bif vev7_1 es a b then bif !vev7_0 es a b then true else decide ((↑bs.length : Int) > (70000 : Int)) else false then true else bif vev13_0 (vev9_0 es a b bs) (vev9_1 es a b bs) b (vev10_0 es a b bs) (vev10_1 es a b bs) b then bif vev9_2 es a b bs == vev10_2 es a b bs then bif vev13_0 (vev11_0 es a b n) a (vev11_1 es a b n) (vev12_0 es a b n) a (vev12_1 es a b n) then bif List.map byteOf (vev11_2 es a b n) == List.map byteOf (vev12_2 es a b n) then bif vev13t_0 (List.replicate (0 : Nat) [v2a (Value.string (ByteArray.mk #[]))] ++ es) (0 : Int) (0 : Int) es (0 : Int) (0 : Int) then bif true then true else false else false else false else false else false else false
noncomputable def vev3_1 (es : List (List AV)) (a : Int) (b : Int) (bs : List (List AV)) (n : Int) : Bool := bif vev7_1 es a b then bif bif vev7_1 es a b then bif !vev7_0 es a b then true else decide ((↑bs.length : Int) > (70000 : Int)) else false then true else bif bif decide (((0 : Nat) + es.length) * (16 : Nat) ≤ (140737488355328 : Nat)) then decide ((0 : Nat) + es.length ≤ (9223372036854775807 : Nat)) else false then bif vev9_3 es a b bs then bif vev10_3 es a b bs then bif vev11_3 es a b n then bif vev12_3 es a b n then bif vev13_1 (vev9_0 es a b bs) (vev9_1 es a b bs) b (vev10_0 es a b bs) (vev10_1 es a b bs) b then bif vev13_0 (vev9_0 es a b bs) (vev9_1 es a b bs) b (vev10_0 es a b bs) (vev10_1 es a b bs) b then bif vev9_2 es a b bs == vev10_2 es a b bs then bif vev13_1 (vev11_0 es a b n) a (vev11_1 es a b n) (vev12_0 es a b n) a (vev12_1 es a b n) then bif vev13_0 (vev11_0 es a b n) a (vev11_1 es a b n) (vev12_0 es a b n) a (vev12_1 es a b n) then bif (vev11_2 es a b n).all isB then bif (vev12_2 es a b n).all isB then bif List.map byteOf (vev11_2 es a b n) == List.map byteOf (vev12_2 es a b n) then bif vev13t_1 (List.replicate (0 : Nat) [v2a (Value.string (ByteArray.mk #[]))] ++ es) (0 : Int) (0 : Int) es (0 : Int) (0 : Int) then true else false else true else false else false else true else false else true else true else false else false else false else false else false else false else false
theorem ev3 (es : List (List AV)) (a : Int) (b : Int) (bs : List (List AV)) (n : Int) : evFun (cfg Try.prog tab 100000 (gk k13t 30) noLsp 3 ([] : List Blk).length Try.f3.ntmps) Try.f3 [.agg [.sl .imm [.str] es, .int .i64 a, .int .i64 b], .sl .imm [.int .u8] bs, .int .i64 n] [] = bif vev3_1 es a b bs n then some (AV.bool (vev3_0 es a b bs n), []) else none := by
  have h : evFun (cfg Try.prog tab 100000 (gk k13t 30) noLsp 3 ([] : List Blk).length Try.f3.ntmps) Try.f3 [.agg [.sl .imm [.str] es, .int .i64 a, .int .i64 b], .sl .imm [.int .u8] bs, .int .i64 n] [] = bif bif vev7_1 es a b then bif !vev7_0 es a b then true else true else false then bif bif vev7_1 es a b then bif !vev7_0 es a b then true else bif false then true else decide ((↑bs.length : Int) > (70000 : Int)) else false then some (AV.bool true, []) else bif bif decide (((0 : Nat) + es.length) * (16 : Nat) ≤ (140737488355328 : Nat)) then decide ((0 : Nat) + es.length ≤ (9223372036854775807 : Nat)) else false then bif vev9_3 es a b bs then bif vev10_3 es a b bs then bif vev11_3 es a b n then bif vev12_3 es a b n then bif vev13_1 (vev9_0 es a b bs) (vev9_1 es a b bs) b (vev10_0 es a b bs) (vev10_1 es a b bs) b then bif vev13_0 (vev9_0 es a b bs) (vev9_1 es a b bs) b (vev10_0 es a b bs) (vev10_1 es a b bs) b then bif bif true then vev9_2 es a b bs == vev10_2 es a b bs else false then bif vev13_1 (vev11_0 es a b n) a (vev11_1 es a b n) (vev12_0 es a b n) a (vev12_1 es a b n) then bif bif true then vev13_0 (vev11_0 es a b n) a (vev11_1 es a b n) (vev12_0 es a b n) a (vev12_1 es a b n) else false then bif (vev11_2 es a b n).all isB then bif (vev12_2 es a b n).all isB then bif bif true then List.map byteOf (vev11_2 es a b n) == List.map byteOf (vev12_2 es a b n) else false then bif vev13t_1 (List.replicate (0 : Nat) [v2a (Value.string (ByteArray.mk #[]))] ++ es) (0 : Int) (0 : Int) es (0 : Int) (0 : Int) then bif bif true then vev13t_0 (List.replicate (0 : Nat) [v2a (Value.string (ByteArray.mk #[]))] ++ es) (0 : Int) (0 : Int) es (0 : Int) (0 : Int) else false then some (AV.bool (bif true then true else false), []) else some (AV.bool false, []) else none else some (AV.bool false, []) else none else none else some (AV.bool false, []) else none else some (AV.bool false, []) else some (AV.bool false, []) else none else none else none else none else none else none else none := by kernel_rfl
  rw [h]
  clear h
  unfold vev3_0 vev3_1
  generalize (decide (((0 : Nat) + es.length) * (16 : Nat) ≤ (140737488355328 : Nat))) = c0
  generalize (vev13t_0 (List.replicate (0 : Nat) [v2a (Value.string (ByteArray.mk #[]))] ++ es) (0 : Int) (0 : Int) es (0 : Int) (0 : Int)) = c1
  generalize (vev13t_1 (List.replicate (0 : Nat) [v2a (Value.string (ByteArray.mk #[]))] ++ es) (0 : Int) (0 : Int) es (0 : Int) (0 : Int)) = c2
  generalize (decide ((0 : Nat) + es.length ≤ (9223372036854775807 : Nat))) = c3
  generalize (decide ((↑bs.length : Int) > (70000 : Int))) = c4
  generalize (List.map byteOf (vev11_2 es a b n) == List.map byteOf (vev12_2 es a b n)) = c5
  generalize (vev13_1 (vev9_0 es a b bs) (vev9_1 es a b bs) b (vev10_0 es a b bs) (vev10_1 es a b bs) b) = c6
  generalize (vev13_0 (vev11_0 es a b n) a (vev11_1 es a b n) (vev12_0 es a b n) a (vev12_1 es a b n)) = c7
  generalize (vev13_1 (vev11_0 es a b n) a (vev11_1 es a b n) (vev12_0 es a b n) a (vev12_1 es a b n)) = c8
  generalize (vev13_0 (vev9_0 es a b bs) (vev9_1 es a b bs) b (vev10_0 es a b bs) (vev10_1 es a b bs) b) = c9
  generalize (vev9_2 es a b bs == vev10_2 es a b bs) = c10
  generalize ((vev12_2 es a b n).all isB) = c11
  generalize ((vev11_2 es a b n).all isB) = c12
  generalize (vev10_3 es a b bs) = c13
  generalize (vev12_3 es a b n) = c14
  generalize (!vev7_0 es a b) = c15
  generalize (vev11_3 es a b n) = c16
  generalize (vev9_3 es a b bs) = c17
  generalize (vev7_1 es a b) = c18
  cases c18
  · skip
    rfl
  · skip
    cases c15
    · skip
      cases c4
      · skip
        cases c0
        · skip
          rfl
        · skip
          cases c3
          · skip
            rfl
          · skip
            cases c17
            · skip
              rfl
            · skip
              cases c13
              · skip
                rfl
              · skip
                cases c16
                · skip
                  rfl
                · skip
                  cases c14
                  · skip
                    rfl
                  · skip
                    cases c6
                    · skip
                      rfl
                    · skip
                      cases c9
                      · skip
                        rfl
                      · skip
                        cases c10
                        · skip
                          rfl
                        · skip
                          cases c8
                          · skip
                            rfl
                          · skip
                            cases c7
                            · skip
                              rfl
                            · skip
                              cases c12
                              · skip
                                rfl
                              · skip
                                cases c11
                                · skip
                                  rfl
                                · skip
                                  cases c5
                                  · skip
                                    rfl
                                  · skip
                                    cases c2
                                    · skip
                                      rfl
                                    · skip
                                      cases c1
                                      · skip
                                        rfl
                                      · skip
                                        rfl
      · skip
        rfl
    · skip
      rfl
-- spec vev3_1 es a b bs n ;; (AV.bool (vev3_0 es a b bs n), [])
end Go.Proofs.Gv
