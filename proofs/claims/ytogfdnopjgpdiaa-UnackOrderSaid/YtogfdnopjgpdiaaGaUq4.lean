import Derived.Test.YtogfdnopjgpdiaaGt
import Derived.KernelRfl
import Derived.Test.YtogfdnopjgpdiaaGwF
import Derived.Test.YtogfdnopjgpdiaaGaUq3
namespace Go.Proofs.Gv
open Go.Proofs
set_option linter.unusedVariables false
noncomputable def rev3_0 (es : List (List AV)) (l : List (List AV)) (now : Int) : List (List AV) := vev15_0 Tk.imm (vev10_0 Tk.imm (vev9_0 es) Tk.imm l now)
noncomputable def vev3_0 (es : List (List AV)) (l : List (List AV)) (now : Int) : Bool := bif bif vev7_1 Tk.imm es then bif !vev7_0 Tk.imm es then true else decide ((↑l.length : Int) > (20 : Int)) else false then true else bif vev15_1 Tk.imm (vev10_0 Tk.imm (vev9_0 es) Tk.imm l now) then bif vev14_1 Tk.imm (rev3_0 es l now) Tk.imm (vev11_0 es Tk.imm l now) then bif vev14_0 Tk.imm (rev3_0 es l now) Tk.imm (vev11_0 es Tk.imm l now) then bif bif true then vev10_1 Tk.imm (vev9_0 es) Tk.imm l now == vev11_1 es Tk.imm l now else false then bif vev15_1 Tk.imm (vev12_0 Tk.imm (vev9_0 es)) then bif vev14_1 Tk.imm (vev15_0 Tk.imm (vev12_0 Tk.imm (vev9_0 es))) Tk.imm (vev13_0 Tk.imm es) then bif bif true then vev14_0 Tk.imm (vev15_0 Tk.imm (vev12_0 Tk.imm (vev9_0 es))) Tk.imm (vev13_0 Tk.imm es) else false then bif vev16_1 Tk.imm (vev12_1 Tk.imm (vev9_0 es)) Tk.imm (vev13_1 Tk.imm es) then bif bif true then vev16_0 Tk.imm (vev12_1 Tk.imm (vev9_0 es)) Tk.imm (vev13_1 Tk.imm es) else false then bif bif true then vev12_2 Tk.imm (vev9_0 es) == vev13_2 Tk.imm es else false then bif vev15_1 Tk.imm (vev9_0 es) then bif vev14_1 Tk.imm (vev15_0 Tk.imm (vev9_0 es)) Tk.imm es then bif bif true then vev14_0 Tk.imm (vev15_0 Tk.imm (vev9_0 es)) Tk.imm es else false then bif true then true else false else false else false else false else false else false else false else false else false else false else false else false else false else false
noncomputable def vev3_1 (es : List (List AV)) (l : List (List AV)) (now : Int) : Bool := bif vev7_1 Tk.imm es then bif bif vev7_1 Tk.imm es then bif !vev7_0 Tk.imm es then true else decide ((↑l.length : Int) > (20 : Int)) else false then true else bif vev9_1 es then bif vev10_2 Tk.imm (vev9_0 es) Tk.imm l now then bif vev11_2 es Tk.imm l now then bif vev12_3 Tk.imm (vev9_0 es) then bif vev13_3 Tk.imm es then bif bif vev15_1 Tk.imm (vev10_0 Tk.imm (vev9_0 es) Tk.imm l now) then bif vev14_1 Tk.imm (rev3_0 es l now) Tk.imm (vev11_0 es Tk.imm l now) then bif vev14_0 Tk.imm (rev3_0 es l now) Tk.imm (vev11_0 es Tk.imm l now) then bif vev10_1 Tk.imm (vev9_0 es) Tk.imm l now == vev11_1 es Tk.imm l now then bif vev15_1 Tk.imm (vev12_0 Tk.imm (vev9_0 es)) then bif vev14_1 Tk.imm (vev15_0 Tk.imm (vev12_0 Tk.imm (vev9_0 es))) Tk.imm (vev13_0 Tk.imm es) then bif vev14_0 Tk.imm (vev15_0 Tk.imm (vev12_0 Tk.imm (vev9_0 es))) Tk.imm (vev13_0 Tk.imm es) then bif vev16_1 Tk.imm (vev12_1 Tk.imm (vev9_0 es)) Tk.imm (vev13_1 Tk.imm es) then bif vev16_0 Tk.imm (vev12_1 Tk.imm (vev9_0 es)) Tk.imm (vev13_1 Tk.imm es) then bif vev12_2 Tk.imm (vev9_0 es) == vev13_2 Tk.imm es then bif vev15_1 Tk.imm (vev9_0 es) then vev14_1 Tk.imm (vev15_0 Tk.imm (vev9_0 es)) Tk.imm es else false else true else true else false else true else false else false else true else true else false else false then true else false else false else false else false else false else false else false
theorem ev3 (es : List (List AV)) (l : List (List AV)) (now : Int) : evFun (cfg Try.prog tab 100000 (gk k11 30) noLsp 3 ([] : List Blk).length Try.f3.ntmps) Try.f3 [.sl .imm [.sl [.int .u16, .int .u32], .int .i64] es, .sl .imm [.int .u16, .int .u32] l, .int .i64 now] [] = bif vev3_1 es l now then some (AV.bool (vev3_0 es l now), []) else none := by
  have h : evFun (cfg Try.prog tab 100000 (gk k11 30) noLsp 3 ([] : List Blk).length Try.f3.ntmps) Try.f3 [.sl .imm [.sl [.int .u16, .int .u32], .int .i64] es, .sl .imm [.int .u16, .int .u32] l, .int .i64 now] [] = bif bif vev7_1 Tk.imm es then bif !vev7_0 Tk.imm es then true else true else false then bif bif vev7_1 Tk.imm es then bif !vev7_0 Tk.imm es then true else bif false then true else decide ((↑l.length : Int) > (20 : Int)) else false then some (AV.bool true, []) else bif vev9_1 es then bif vev10_2 Tk.imm (vev9_0 es) Tk.imm l now then bif vev11_2 es Tk.imm l now then bif vev12_3 Tk.imm (vev9_0 es) then bif vev13_3 Tk.imm es then bif bif vev15_1 Tk.imm (vev10_0 Tk.imm (vev9_0 es) Tk.imm l now) then bif vev14_1 Tk.imm (rev3_0 es l now) Tk.imm (vev11_0 es Tk.imm l now) then bif vev14_0 Tk.imm (rev3_0 es l now) Tk.imm (vev11_0 es Tk.imm l now) then bif bif true then vev10_1 Tk.imm (vev9_0 es) Tk.imm l now == vev11_1 es Tk.imm l now else false then bif vev15_1 Tk.imm (vev12_0 Tk.imm (vev9_0 es)) then bif vev14_1 Tk.imm (vev15_0 Tk.imm (vev12_0 Tk.imm (vev9_0 es))) Tk.imm (vev13_0 Tk.imm es) then bif bif true then vev14_0 Tk.imm (vev15_0 Tk.imm (vev12_0 Tk.imm (vev9_0 es))) Tk.imm (vev13_0 Tk.imm es) else false then bif vev16_1 Tk.imm (vev12_1 Tk.imm (vev9_0 es)) Tk.imm (vev13_1 Tk.imm es) then bif bif true then vev16_0 Tk.imm (vev12_1 Tk.imm (vev9_0 es)) Tk.imm (vev13_1 Tk.imm es) else false then bif bif true then vev12_2 Tk.imm (vev9_0 es) == vev13_2 Tk.imm es else false then bif vev15_1 Tk.imm (vev9_0 es) then bif vev14_1 Tk.imm (vev15_0 Tk.imm (vev9_0 es)) Tk.imm es then bif bif true then vev14_0 Tk.imm (vev15_0 Tk.imm (vev9_0 es)) Tk.imm es else false then true else true else false else false else true else true else false else true else false else false else true else true else false else false then some (AV.bool (bif vev15_1 Tk.imm (vev10_0 Tk.imm (vev9_0 es) Tk.imm l now) then bif vev14_1 Tk.imm (rev3_0 es l now) Tk.imm (vev11_0 es Tk.imm l now) then bif vev14_0 Tk.imm (rev3_0 es l now) Tk.imm (vev11_0 es Tk.imm l now) then bif bif true then vev10_1 Tk.imm (vev9_0 es) Tk.imm l now == vev11_1 es Tk.imm l now else false then bif vev15_1 Tk.imm (vev12_0 Tk.imm (vev9_0 es)) then bif vev14_1 Tk.imm (vev15_0 Tk.imm (vev12_0 Tk.imm (vev9_0 es))) Tk.imm (vev13_0 Tk.imm es) then bif bif true then vev14_0 Tk.imm (vev15_0 Tk.imm (vev12_0 Tk.imm (vev9_0 es))) Tk.imm (vev13_0 Tk.imm es) else false then bif vev16_1 Tk.imm (vev12_1 Tk.imm (vev9_0 es)) Tk.imm (vev13_1 Tk.imm es) then bif bif true then vev16_0 Tk.imm (vev12_1 Tk.imm (vev9_0 es)) Tk.imm (vev13_1 Tk.imm es) else false then bif bif true then vev12_2 Tk.imm (vev9_0 es) == vev13_2 Tk.imm es else false then bif vev15_1 Tk.imm (vev9_0 es) then bif vev14_1 Tk.imm (vev15_0 Tk.imm (vev9_0 es)) Tk.imm es then bif bif true then vev14_0 Tk.imm (vev15_0 Tk.imm (vev9_0 es)) Tk.imm es else false then bif true then true else false else false else false else false else false else false else false else false else false else false else false else false else false else false), []) else none else none else none else none else none else none else none := by kernel_rfl
  rw [h]
  clear h
  unfold vev3_0 vev3_1
  generalize (decide ((↑l.length : Int) > (20 : Int))) = c0
  generalize (vev10_1 Tk.imm (vev9_0 es) Tk.imm l now == vev11_1 es Tk.imm l now) = c1
  generalize (vev14_1 Tk.imm (vev15_0 Tk.imm (vev12_0 Tk.imm (vev9_0 es))) Tk.imm (vev13_0 Tk.imm es)) = c2
  generalize (vev14_0 Tk.imm (vev15_0 Tk.imm (vev12_0 Tk.imm (vev9_0 es))) Tk.imm (vev13_0 Tk.imm es)) = c3
  generalize (vev14_1 Tk.imm (rev3_0 es l now) Tk.imm (vev11_0 es Tk.imm l now)) = c4
  generalize (vev12_2 Tk.imm (vev9_0 es) == vev13_2 Tk.imm es) = c5
  generalize (vev14_0 Tk.imm (rev3_0 es l now) Tk.imm (vev11_0 es Tk.imm l now)) = c6
  generalize (vev16_1 Tk.imm (vev12_1 Tk.imm (vev9_0 es)) Tk.imm (vev13_1 Tk.imm es)) = c7
  generalize (vev16_0 Tk.imm (vev12_1 Tk.imm (vev9_0 es)) Tk.imm (vev13_1 Tk.imm es)) = c8
  generalize (vev15_1 Tk.imm (vev10_0 Tk.imm (vev9_0 es) Tk.imm l now)) = c9
  generalize (vev14_0 Tk.imm (vev15_0 Tk.imm (vev9_0 es)) Tk.imm es) = c10
  generalize (vev14_1 Tk.imm (vev15_0 Tk.imm (vev9_0 es)) Tk.imm es) = c11
  generalize (vev10_2 Tk.imm (vev9_0 es) Tk.imm l now) = c12
  generalize (vev15_1 Tk.imm (vev12_0 Tk.imm (vev9_0 es))) = c13
  generalize (vev11_2 es Tk.imm l now) = c14
  generalize (vev12_3 Tk.imm (vev9_0 es)) = c15
  generalize (!vev7_0 Tk.imm es) = c16
  generalize (vev15_1 Tk.imm (vev9_0 es)) = c17
  generalize (vev7_1 Tk.imm es) = c18
  generalize (vev13_3 Tk.imm es) = c19
  generalize (vev9_1 es) = c20
  cases c18
  · skip
    rfl
  · skip
    cases c16
    · skip
      cases c0
      · skip
        cases c20
        · skip
          rfl
        · skip
          cases c12
          · skip
            rfl
          · skip
            cases c14
            · skip
              rfl
            · skip
              cases c15
              · skip
                rfl
              · skip
                cases c19
                · skip
                  rfl
                · skip
                  cases c9
                  · skip
                    rfl
                  · skip
                    cases c4
                    · skip
                      rfl
                    · skip
                      cases c6
                      · skip
                        rfl
                      · skip
                        cases c1
                        · skip
                          rfl
                        · skip
                          cases c13
                          · skip
                            rfl
                          · skip
                            cases c2
                            · skip
                              rfl
                            · skip
                              cases c3
                              · skip
                                rfl
                              · skip
                                cases c7
                                · skip
                                  rfl
                                · skip
                                  cases c8
                                  · skip
                                    rfl
                                  · skip
                                    cases c5
                                    · skip
                                      rfl
                                    · skip
                                      cases c17
                                      · skip
                                        rfl
                                      · skip
                                        cases c11
                                        · skip
                                          rfl
                                        · skip
                                          cases c10
                                          · skip
                                            rfl
                                          · skip
                                            rfl
      · skip
        rfl
    · skip
      rfl
-- spec vev3_1 es l now ;; (AV.bool (vev3_0 es l now), [])
-- law 3: loops (fun c _ => LoopsOK.none (fun _ _ => rfl) c) gam k11
end Go.Proofs.Gv
