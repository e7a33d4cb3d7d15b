import Derived.Test.YtogfdnopjgpdiaaGt
import Derived.KernelRfl
import Derived.Test.YtogfdnopjgpdiaaGwF
import Derived.Test.YtogfdnopjgpdiaaGaUq3
namespace Go.Proofs.Gv
open Go.Proofs
set_option linter.unusedVariables false
noncomputable def rev4_0 (es : List (List AV)) (es2 : List (List AV)) (a : Int) (b : Int) (c : Int) : Int := IntKind.u16.wrap ((IntKind.u64.wrap c).tmod (8 : Int))
noncomputable def vev4_0 (es : List (List AV)) (es2 : List (List AV)) (a : Int) (b : Int) (c : Int) : Bool := bif bif vev7_1 Tk.imm es then bif !vev7_0 Tk.imm es then true else bif vev7_1 Tk.imm es2 then !vev7_0 Tk.imm es2 else false else false then true else bif vev17_1 Tk.imm (vev9_0 es) then bif vev18_1 Tk.imm es then bif vev17_0 Tk.imm (vev9_0 es) == vev18_0 Tk.imm es then bif vev19_1 Tk.imm (vev9_0 es) a b then bif vev20_1 Tk.imm es a b then bif bif true then vev19_0 Tk.imm (vev9_0 es) a b == vev20_0 Tk.imm es a b else false then bif vev22_1 Tk.imm es (rev4_0 es es2 a b c) b then bif bif true then leastL (rev4_0 es es2 a b c) b (vev9_0 es) == vev22_0 Tk.imm es (rev4_0 es es2 a b c) b else false then bif vev24_1 Tk.imm es (rev4_0 es es2 a b c) b then bif bif true then greatestL (rev4_0 es es2 a b c) b (vev9_0 es) == vev24_0 Tk.imm es (rev4_0 es es2 a b c) b else false then bif vev9_1 es2 then bif vev25_0 Tk.imm (vev9_0 es) Tk.imm (vev9_0 es2) then bif vev14_1 Tk.imm es Tk.imm es2 then bif bif true then vev37_0 Tk.imm (vev9_0 es) Tk.imm (vev9_0 es2) == vev14_0 Tk.imm es Tk.imm es2 else false then bif true then true else false else false else false else false else false else false else false else false else false else false else false else false else false else false else false
noncomputable def vev4_1 (es : List (List AV)) (es2 : List (List AV)) (a : Int) (b : Int) (c : Int) : Bool := bif bif vev7_1 Tk.imm es then bif !vev7_0 Tk.imm es then true else vev7_1 Tk.imm es2 else false then bif bif vev7_1 Tk.imm es then bif !vev7_0 Tk.imm es then true else bif vev7_1 Tk.imm es2 then !vev7_0 Tk.imm es2 else false else false then true else bif vev9_1 es then bif bif vev17_1 Tk.imm (vev9_0 es) then bif vev18_1 Tk.imm es then bif vev17_0 Tk.imm (vev9_0 es) == vev18_0 Tk.imm es then bif vev19_1 Tk.imm (vev9_0 es) a b then bif vev20_1 Tk.imm es a b then bif vev19_0 Tk.imm (vev9_0 es) a b == vev20_0 Tk.imm es a b then bif vev22_1 Tk.imm es (rev4_0 es es2 a b c) b then bif leastL (rev4_0 es es2 a b c) b (vev9_0 es) == vev22_0 Tk.imm es (rev4_0 es es2 a b c) b then bif vev24_1 Tk.imm es (rev4_0 es es2 a b c) b then bif greatestL (rev4_0 es es2 a b c) b (vev9_0 es) == vev24_0 Tk.imm es (rev4_0 es es2 a b c) b then bif vev9_1 es2 then bif vev25_0 Tk.imm (vev9_0 es) Tk.imm (vev9_0 es2) then vev14_1 Tk.imm es Tk.imm es2 else false else false else true else false else true else false else true else false else false else true else false else false then true else false else false else false
theorem ev4 (es : List (List AV)) (es2 : List (List AV)) (a : Int) (b : Int) (c : Int) : evFun (cfg Try.prog tab 100000 (gk k11 30) noLsp 4 ([] : List Blk).length Try.f4.ntmps) Try.f4 [.sl .imm [.sl [.int .u16, .int .u32], .int .i64] es, .sl .imm [.sl [.int .u16, .int .u32], .int .i64] es2, .agg [.int .i64 a, .int .i64 b, .int .i64 c]] [] = bif vev4_1 es es2 a b c then some (AV.bool (vev4_0 es es2 a b c), []) else none := by
  have h : evFun (cfg Try.prog tab 100000 (gk k11 30) noLsp 4 ([] : List Blk).length Try.f4.ntmps) Try.f4 [.sl .imm [.sl [.int .u16, .int .u32], .int .i64] es, .sl .imm [.sl [.int .u16, .int .u32], .int .i64] es2, .agg [.int .i64 a, .int .i64 b, .int .i64 c]] [] = bif bif vev7_1 Tk.imm es then bif !vev7_0 Tk.imm es then true else bif vev7_1 Tk.imm es2 then true else false else false then bif bif vev7_1 Tk.imm es then bif !vev7_0 Tk.imm es then true else bif vev7_1 Tk.imm es2 then bif false then true else !vev7_0 Tk.imm es2 else false else false then some (AV.bool true, []) else bif vev9_1 es then bif bif vev17_1 Tk.imm (vev9_0 es) then bif vev18_1 Tk.imm es then bif vev17_0 Tk.imm (vev9_0 es) == vev18_0 Tk.imm es then bif vev19_1 Tk.imm (vev9_0 es) a b then bif vev20_1 Tk.imm es a b then bif bif true then vev19_0 Tk.imm (vev9_0 es) a b == vev20_0 Tk.imm es a b else false then bif vev22_1 Tk.imm es (rev4_0 es es2 a b c) b then bif bif true then leastL (rev4_0 es es2 a b c) b (vev9_0 es) == vev22_0 Tk.imm es (rev4_0 es es2 a b c) b else false then bif vev24_1 Tk.imm es (rev4_0 es es2 a b c) b then bif bif true then greatestL (rev4_0 es es2 a b c) b (vev9_0 es) == vev24_0 Tk.imm es (rev4_0 es es2 a b c) b else false then bif vev9_1 es2 then bif vev25_0 Tk.imm (vev9_0 es) Tk.imm (vev9_0 es2) then bif vev14_1 Tk.imm es Tk.imm es2 then bif bif true then vev37_0 Tk.imm (vev9_0 es) Tk.imm (vev9_0 es2) == vev14_0 Tk.imm es Tk.imm es2 else false then true else true else false else false else false else true else false else true else false else true else false else false else true else false else false then some (AV.bool (bif vev17_1 Tk.imm (vev9_0 es) then bif vev18_1 Tk.imm es then bif vev17_0 Tk.imm (vev9_0 es) == vev18_0 Tk.imm es then bif vev19_1 Tk.imm (vev9_0 es) a b then bif vev20_1 Tk.imm es a b then bif bif true then vev19_0 Tk.imm (vev9_0 es) a b == vev20_0 Tk.imm es a b else false then bif vev22_1 Tk.imm es (rev4_0 es es2 a b c) b then bif bif true then leastL (rev4_0 es es2 a b c) b (vev9_0 es) == vev22_0 Tk.imm es (rev4_0 es es2 a b c) b else false then bif vev24_1 Tk.imm es (rev4_0 es es2 a b c) b then bif bif true then greatestL (rev4_0 es es2 a b c) b (vev9_0 es) == vev24_0 Tk.imm es (rev4_0 es es2 a b c) b else false then bif vev9_1 es2 then bif vev25_0 Tk.imm (vev9_0 es) Tk.imm (vev9_0 es2) then bif vev14_1 Tk.imm es Tk.imm es2 then bif bif true then vev37_0 Tk.imm (vev9_0 es) Tk.imm (vev9_0 es2) == vev14_0 Tk.imm es Tk.imm es2 else false then bif true then true else false else false else false else false else false else false else false else false else false else false else false else false else false else false else false), []) else none else none else none := by kernel_rfl
  rw [h]
  clear h
  unfold vev4_0 vev4_1
  generalize (greatestL (rev4_0 es es2 a b c) b (vev9_0 es) == vev24_0 Tk.imm es (rev4_0 es es2 a b c) b) = c0
  generalize (leastL (rev4_0 es es2 a b c) b (vev9_0 es) == vev22_0 Tk.imm es (rev4_0 es es2 a b c) b) = c1
  generalize (vev37_0 Tk.imm (vev9_0 es) Tk.imm (vev9_0 es2) == vev14_0 Tk.imm es Tk.imm es2) = c2
  generalize (vev19_0 Tk.imm (vev9_0 es) a b == vev20_0 Tk.imm es a b) = c3
  generalize (vev17_0 Tk.imm (vev9_0 es) == vev18_0 Tk.imm es) = c4
  generalize (vev22_1 Tk.imm es (rev4_0 es es2 a b c) b) = c5
  generalize (vev24_1 Tk.imm es (rev4_0 es es2 a b c) b) = c6
  generalize (vev25_0 Tk.imm (vev9_0 es) Tk.imm (vev9_0 es2)) = c7
  generalize (vev19_1 Tk.imm (vev9_0 es) a b) = c8
  generalize (vev20_1 Tk.imm es a b) = c9
  generalize (vev14_1 Tk.imm es Tk.imm es2) = c10
  generalize (!vev7_0 Tk.imm es) = c11
  generalize (!vev7_0 Tk.imm es2) = c12
  generalize (vev17_1 Tk.imm (vev9_0 es)) = c13
  generalize (vev7_1 Tk.imm es) = c14
  generalize (vev18_1 Tk.imm es) = c15
  generalize (vev7_1 Tk.imm es2) = c16
  generalize (vev9_1 es) = c17
  generalize (vev9_1 es2) = c18
  cases c14
  · skip
    rfl
  · skip
    cases c11
    · skip
      cases c16
      · skip
        rfl
      · skip
        cases c12
        · skip
          cases c17
          · skip
            rfl
          · skip
            cases c13
            · skip
              rfl
            · skip
              cases c15
              · skip
                rfl
              · skip
                cases c4
                · skip
                  rfl
                · skip
                  cases c8
                  · skip
                    rfl
                  · skip
                    cases c9
                    · skip
                      rfl
                    · skip
                      cases c3
                      · skip
                        rfl
                      · skip
                        cases c5
                        · skip
                          rfl
                        · skip
                          cases c1
                          · skip
                            rfl
                          · skip
                            cases c6
                            · skip
                              rfl
                            · skip
                              cases c0
                              · skip
                                rfl
                              · skip
                                cases c18
                                · skip
                                  rfl
                                · skip
                                  cases c7
                                  · skip
                                    rfl
                                  · skip
                                    cases c10
                                    · skip
                                      rfl
                                    · skip
                                      cases c2
                                      · skip
                                        rfl
                                      · skip
                                        rfl
        · skip
          rfl
    · skip
      rfl
-- spec vev4_1 es es2 a b c ;; (AV.bool (vev4_0 es es2 a b c), [])
-- law 4: loops (fun c _ => LoopsOK.none (fun _ _ => rfl) c) gam k11
end Go.Proofs.Gv
