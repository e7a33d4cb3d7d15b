import Derived.Test.YtjbohlgfhfehdaaGt
import Derived.KernelRfl
import Derived.Test.YtjbohlgfhfehdaaGwF
import Derived.Test.YtjbohlgfhfehdaaGxJ
import Derived.Test.YtjbohlgfhfehdaaGaHp6
namespace Go.Proofs.Gv
open Go.Proofs
set_option linter.unusedVariables false
noncomputable def rev3_0 (es : List (List AV)) (a : Int) (b : Int) (c : Int) (d : Int) : List (List AV) := vev12_0 Tk.imm (vev10_0 Tk.lent (vev7_0 Tk.imm (vev8_0 es)))
noncomputable def vev3_0 (es : List (List AV)) (a : Int) (b : Int) (c : Int) (d : Int) : Bool := bif decide ((↑es.length : Int) > (60 : Int)) then true else bif vev9_0 Tk.imm (vev10_0 Tk.imm (sortR (vev8_0 es))) Tk.imm (vev12_0 Tk.imm es) then bif vev13_0 Tk.imm (vev8_0 es) == vev14_0 Tk.imm es then bif vev15_0 a b c d == vev16_0 a b c d then bif vev13_0 Tk.lent (vev7_0 Tk.imm (vev8_0 es)) == (0 : Int) then bif vev9_0 Tk.imm (rev3_0 es a b c d) Tk.imm (vev12_0 Tk.imm es) then bif true then true else false else false else false else false else false else false
noncomputable def vev3_1 (es : List (List AV)) (a : Int) (b : Int) (c : Int) (d : Int) : Bool := bif decide ((↑es.length : Int) > (60 : Int)) then true else bif vev8_1 es then bif vev7_1 Tk.imm (vev8_0 es) then bif vev11_0 Tk.imm (vev8_0 es) then bif vev10_1 Tk.imm (sortR (vev8_0 es)) then bif vev12_1 Tk.imm es then bif vev9_1 Tk.imm (vev10_0 Tk.imm (sortR (vev8_0 es))) Tk.imm (vev12_0 Tk.imm es) then bif vev9_0 Tk.imm (vev10_0 Tk.imm (sortR (vev8_0 es))) Tk.imm (vev12_0 Tk.imm es) then bif vev13_1 Tk.imm (vev8_0 es) then bif vev14_1 Tk.imm es then bif vev13_0 Tk.imm (vev8_0 es) == vev14_0 Tk.imm es then bif vev15_0 a b c d == vev16_0 a b c d then bif vev13_1 Tk.lent (vev7_0 Tk.imm (vev8_0 es)) then bif vev13_0 Tk.lent (vev7_0 Tk.imm (vev8_0 es)) == (0 : Int) then bif vev10_1 Tk.lent (vev7_0 Tk.imm (vev8_0 es)) then bif vev12_1 Tk.imm (vev10_0 Tk.lent (vev7_0 Tk.imm (vev8_0 es))) then bif vev9_1 Tk.imm (rev3_0 es a b c d) Tk.imm (vev12_0 Tk.imm es) then true else false else false else false else true else false else true else true else false else false else true else false else false else false else false else false else false
theorem ev3 (es : List (List AV)) (a : Int) (b : Int) (c : Int) (d : Int) : evFun (cfg Try.prog tab 100000 (gk k11 30) noLsp 3 ([] : List Blk).length Try.f3.ntmps) Try.f3 [.sl .imm [.int .i64, .int .i64] es, .agg [.int .i64 a, .int .i64 b], .agg [.int .i64 c, .int .i64 d]] [] = bif vev3_1 es a b c d then some (AV.bool (vev3_0 es a b c d), []) else none := by
  have h : evFun (cfg Try.prog tab 100000 (gk k11 30) noLsp 3 ([] : List Blk).length Try.f3.ntmps) Try.f3 [.sl .imm [.int .i64, .int .i64] es, .agg [.int .i64 a, .int .i64 b], .agg [.int .i64 c, .int .i64 d]] [] = bif decide ((↑es.length : Int) > (60 : Int)) then some (AV.bool true, []) else bif vev8_1 es then bif vev7_1 Tk.imm (vev8_0 es) then bif vev8_1 es then bif vev11_0 Tk.imm (vev8_0 es) then bif vev10_1 Tk.imm (sortR (vev8_0 es)) then bif vev12_1 Tk.imm es then bif vev9_1 Tk.imm (vev10_0 Tk.imm (sortR (vev8_0 es))) Tk.imm (vev12_0 Tk.imm es) then bif vev9_0 Tk.imm (vev10_0 Tk.imm (sortR (vev8_0 es))) Tk.imm (vev12_0 Tk.imm es) then bif vev8_1 es then bif vev13_1 Tk.imm (vev8_0 es) then bif vev14_1 Tk.imm es then bif bif true then vev13_0 Tk.imm (vev8_0 es) == vev14_0 Tk.imm es else false then bif bif true then vev15_0 a b c d == vev16_0 a b c d else false then bif vev13_1 Tk.lent (vev7_0 Tk.imm (vev8_0 es)) then bif bif true then vev13_0 Tk.lent (vev7_0 Tk.imm (vev8_0 es)) == (0 : Int) else false then bif vev10_1 Tk.lent (vev7_0 Tk.imm (vev8_0 es)) then bif vev12_1 Tk.imm (vev10_0 Tk.lent (vev7_0 Tk.imm (vev8_0 es))) then bif vev12_1 Tk.imm es then bif vev9_1 Tk.imm (rev3_0 es a b c d) Tk.imm (vev12_0 Tk.imm es) then bif bif true then vev9_0 Tk.imm (rev3_0 es a b c d) Tk.imm (vev12_0 Tk.imm es) else false then some (AV.bool (bif true then true else false), []) else some (AV.bool false, []) else none else none else none else none else some (AV.bool false, []) else none else some (AV.bool false, []) else some (AV.bool false, []) else none else none else none else some (AV.bool false, []) else none else none else none else none else none else none else none := by kernel_rfl
  rw [h]
  clear h
  unfold vev3_0 vev3_1
  generalize (decide ((↑es.length : Int) > (60 : Int))) = c0
  generalize (vev13_0 Tk.lent (vev7_0 Tk.imm (vev8_0 es)) == (0 : Int)) = c1
  generalize (vev15_0 a b c d == vev16_0 a b c d) = c2
  generalize (vev9_0 Tk.imm (rev3_0 es a b c d) Tk.imm (vev12_0 Tk.imm es)) = c3
  generalize (vev9_1 Tk.imm (rev3_0 es a b c d) Tk.imm (vev12_0 Tk.imm es)) = c4
  generalize (vev13_0 Tk.imm (vev8_0 es) == vev14_0 Tk.imm es) = c5
  generalize (vev9_0 Tk.imm (vev10_0 Tk.imm (sortR (vev8_0 es))) Tk.imm (vev12_0 Tk.imm es)) = c6
  generalize (vev9_1 Tk.imm (vev10_0 Tk.imm (sortR (vev8_0 es))) Tk.imm (vev12_0 Tk.imm es)) = c7
  generalize (vev12_1 Tk.imm (vev10_0 Tk.lent (vev7_0 Tk.imm (vev8_0 es)))) = c8
  generalize (vev13_1 Tk.lent (vev7_0 Tk.imm (vev8_0 es))) = c9
  generalize (vev10_1 Tk.lent (vev7_0 Tk.imm (vev8_0 es))) = c10
  generalize (vev10_1 Tk.imm (sortR (vev8_0 es))) = c11
  generalize (vev7_1 Tk.imm (vev8_0 es)) = c12
  generalize (vev13_1 Tk.imm (vev8_0 es)) = c13
  generalize (vev11_0 Tk.imm (vev8_0 es)) = c14
  generalize (vev12_1 Tk.imm es) = c15
  generalize (vev14_1 Tk.imm es) = c16
  generalize (vev8_1 es) = c17
  cases c0
  · skip
    cases c17
    · skip
      rfl
    · skip
      cases c12
      · skip
        rfl
      · skip
        cases c14
        · skip
          rfl
        · skip
          cases c11
          · skip
            rfl
          · skip
            cases c15
            · skip
              rfl
            · skip
              cases c7
              · skip
                rfl
              · skip
                cases c6
                · skip
                  rfl
                · skip
                  cases c13
                  · skip
                    rfl
                  · skip
                    cases c16
                    · skip
                      rfl
                    · skip
                      cases c5
                      · skip
                        rfl
                      · skip
                        cases c2
                        · skip
                          rfl
                        · skip
                          cases c9
                          · skip
                            rfl
                          · skip
                            cases c1
                            · skip
                              rfl
                            · skip
                              cases c10
                              · skip
                                rfl
                              · skip
                                cases c8
                                · skip
                                  rfl
                                · skip
                                  cases c4
                                  · skip
                                    rfl
                                  · skip
                                    cases c3
                                    · skip
                                      rfl
                                    · skip
                                      rfl
  · skip
    rfl
-- spec vev3_1 es a b c d ;; (AV.bool (vev3_0 es a b c d), [])
-- law 3: loops (fun c _ => LoopsOK.none (fun _ _ => rfl) c) gam k11
end Go.Proofs.Gv
