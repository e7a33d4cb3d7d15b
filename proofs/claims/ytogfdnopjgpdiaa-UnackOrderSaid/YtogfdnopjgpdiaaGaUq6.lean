import Derived.Test.YtogfdnopjgpdiaaGt
import Derived.KernelRfl
import Derived.Test.YtogfdnopjgpdiaaGwF
import Derived.Test.YtogfdnopjgpdiaaGaUq3
namespace Go.Proofs.Gv
open Go.Proofs
set_option linter.unusedVariables false
noncomputable def rev6_0 (es : List (List AV)) (now : Int) (most : Int) : Int := IntKind.i64.wrap (IntKind.i64.wrap now + (1 : Int))
noncomputable def rev6_1 (es : List (List AV)) (now : Int) (most : Int) : Int := IntKind.i64.wrap (IntKind.i64.wrap most - (1 : Int))
noncomputable def vev6_0 (es : List (List AV)) (now : Int) (most : Int) : Bool := bif bif vev7_1 Tk.imm es then bif !vev7_0 Tk.imm es then true else bif vev17_1 Tk.imm (vev9_0 es) then vev17_0 Tk.imm (vev9_0 es) != (0 : Int) else false else false then true else bif bif vev19_0 Tk.imm (vev9_0 es) (IntKind.i64.wrap now) (IntKind.i64.wrap most) then bif vev19_1 Tk.imm (vev9_0 es) (rev6_0 es now most) (IntKind.i64.wrap most) then bif !vev19_0 Tk.imm (vev9_0 es) (rev6_0 es now most) (IntKind.i64.wrap most) then true else bif decide (IntKind.i64.wrap most > (0 : Int)) then bif vev19_1 Tk.imm (vev9_0 es) (IntKind.i64.wrap now) (rev6_1 es now most) then bif !vev19_0 Tk.imm (vev9_0 es) (IntKind.i64.wrap now) (rev6_1 es now most) then true else !vev12_2 Tk.imm (vev9_0 es) else false else !vev12_2 Tk.imm (vev9_0 es) else false else false then false else bif vev19_0 Tk.imm (vev9_0 es) (IntKind.i64.wrap now) (IntKind.i64.wrap most) then bif bif true then vev12_2 Tk.imm (vev9_0 es) == decide ((↑es.length : Int) > (0 : Int)) else false then bif true then true else false else false else bif vev19_1 Tk.imm (vev12_0 Tk.imm (vev9_0 es)) (IntKind.i64.wrap now) (IntKind.i64.wrap most) then bif bif false then true else !vev19_0 Tk.imm (vev12_0 Tk.imm (vev9_0 es)) (IntKind.i64.wrap now) (IntKind.i64.wrap most) then bif bif true then vev12_2 Tk.imm (vev9_0 es) == decide ((↑es.length : Int) > (0 : Int)) else false then bif true then true else false else false else false else false
noncomputable def vev6_1 (es : List (List AV)) (now : Int) (most : Int) : Bool := bif vev9_1 es then bif bif vev7_1 Tk.imm es then bif !vev7_0 Tk.imm es then true else vev17_1 Tk.imm (vev9_0 es) else false then bif bif vev7_1 Tk.imm es then bif !vev7_0 Tk.imm es then true else bif vev17_1 Tk.imm (vev9_0 es) then vev17_0 Tk.imm (vev9_0 es) != (0 : Int) else false else false then true else bif vev19_1 Tk.imm (vev9_0 es) (IntKind.i64.wrap now) (IntKind.i64.wrap most) then bif vev12_3 Tk.imm (vev9_0 es) then bif bif vev19_0 Tk.imm (vev9_0 es) (IntKind.i64.wrap now) (IntKind.i64.wrap most) then bif vev19_1 Tk.imm (vev9_0 es) (rev6_0 es now most) (IntKind.i64.wrap most) then bif !vev19_0 Tk.imm (vev9_0 es) (rev6_0 es now most) (IntKind.i64.wrap most) then true else bif decide (IntKind.i64.wrap most > (0 : Int)) then vev19_1 Tk.imm (vev9_0 es) (IntKind.i64.wrap now) (rev6_1 es now most) else true else false else true then bif bif vev19_0 Tk.imm (vev9_0 es) (IntKind.i64.wrap now) (IntKind.i64.wrap most) then bif vev19_1 Tk.imm (vev9_0 es) (rev6_0 es now most) (IntKind.i64.wrap most) then bif !vev19_0 Tk.imm (vev9_0 es) (rev6_0 es now most) (IntKind.i64.wrap most) then true else bif decide (IntKind.i64.wrap most > (0 : Int)) then bif vev19_1 Tk.imm (vev9_0 es) (IntKind.i64.wrap now) (rev6_1 es now most) then bif !vev19_0 Tk.imm (vev9_0 es) (IntKind.i64.wrap now) (rev6_1 es now most) then true else !vev12_2 Tk.imm (vev9_0 es) else false else !vev12_2 Tk.imm (vev9_0 es) else false else false then true else bif bif vev19_0 Tk.imm (vev9_0 es) (IntKind.i64.wrap now) (IntKind.i64.wrap most) then true else vev19_1 Tk.imm (vev12_0 Tk.imm (vev9_0 es)) (IntKind.i64.wrap now) (IntKind.i64.wrap most) then true else false else false else false else false else false else false
theorem ev6 (es : List (List AV)) (now : Int) (most : Int) : evFun (cfg Try.prog tab 100000 (gk k11 30) noLsp 6 ([] : List Blk).length Try.f6.ntmps) Try.f6 [.sl .imm [.sl [.int .u16, .int .u32], .int .i64] es, .int .u32 now, .int .u32 most] [] = bif vev6_1 es now most then some (AV.bool (vev6_0 es now most), []) else none := by
  have h : evFun (cfg Try.prog tab 100000 (gk k11 30) noLsp 6 ([] : List Blk).length Try.f6.ntmps) Try.f6 [.sl .imm [.sl [.int .u16, .int .u32], .int .i64] es, .int .u32 now, .int .u32 most] [] = bif vev9_1 es then bif bif vev7_1 Tk.imm es then bif !vev7_0 Tk.imm es then true else bif vev17_1 Tk.imm (vev9_0 es) then true else false else false then bif bif vev7_1 Tk.imm es then bif !vev7_0 Tk.imm es then true else bif vev17_1 Tk.imm (vev9_0 es) then bif false then true else vev17_0 Tk.imm (vev9_0 es) != (0 : Int) else false else false then some (AV.bool true, []) else bif vev19_1 Tk.imm (vev9_0 es) (IntKind.i64.wrap now) (IntKind.i64.wrap most) then bif vev12_3 Tk.imm (vev9_0 es) then bif bif vev19_0 Tk.imm (vev9_0 es) (IntKind.i64.wrap now) (IntKind.i64.wrap most) then bif vev19_1 Tk.imm (vev9_0 es) (rev6_0 es now most) (IntKind.i64.wrap most) then bif !vev19_0 Tk.imm (vev9_0 es) (rev6_0 es now most) (IntKind.i64.wrap most) then true else bif decide (IntKind.i64.wrap most > (0 : Int)) then bif vev19_1 Tk.imm (vev9_0 es) (IntKind.i64.wrap now) (rev6_1 es now most) then bif bif false then true else bif true then !vev19_0 Tk.imm (vev9_0 es) (IntKind.i64.wrap now) (rev6_1 es now most) else false then true else true else false else true else false else true then bif bif vev19_0 Tk.imm (vev9_0 es) (IntKind.i64.wrap now) (IntKind.i64.wrap most) then bif vev19_1 Tk.imm (vev9_0 es) (rev6_0 es now most) (IntKind.i64.wrap most) then bif !vev19_0 Tk.imm (vev9_0 es) (rev6_0 es now most) (IntKind.i64.wrap most) then bif true then true else false else bif decide (IntKind.i64.wrap most > (0 : Int)) then bif vev19_1 Tk.imm (vev9_0 es) (IntKind.i64.wrap now) (rev6_1 es now most) then bif bif false then true else bif true then !vev19_0 Tk.imm (vev9_0 es) (IntKind.i64.wrap now) (rev6_1 es now most) else false then bif true then true else false else bif true then bif false then true else !vev12_2 Tk.imm (vev9_0 es) else false else false else bif true then bif false then true else !vev12_2 Tk.imm (vev9_0 es) else false else false else false then some (AV.bool false, []) else bif bif vev19_0 Tk.imm (vev9_0 es) (IntKind.i64.wrap now) (IntKind.i64.wrap most) then bif bif true then vev12_2 Tk.imm (vev9_0 es) == decide ((↑es.length : Int) > (0 : Int)) else false then true else true else bif vev19_1 Tk.imm (vev12_0 Tk.imm (vev9_0 es)) (IntKind.i64.wrap now) (IntKind.i64.wrap most) then bif bif false then true else !vev19_0 Tk.imm (vev12_0 Tk.imm (vev9_0 es)) (IntKind.i64.wrap now) (IntKind.i64.wrap most) then bif bif true then vev12_2 Tk.imm (vev9_0 es) == decide ((↑es.length : Int) > (0 : Int)) else false then true else true else true else false then some (AV.bool (bif vev19_0 Tk.imm (vev9_0 es) (IntKind.i64.wrap now) (IntKind.i64.wrap most) then bif bif true then vev12_2 Tk.imm (vev9_0 es) == decide ((↑es.length : Int) > (0 : Int)) else false then bif true then true else false else false else bif vev19_1 Tk.imm (vev12_0 Tk.imm (vev9_0 es)) (IntKind.i64.wrap now) (IntKind.i64.wrap most) then bif bif false then true else !vev19_0 Tk.imm (vev12_0 Tk.imm (vev9_0 es)) (IntKind.i64.wrap now) (IntKind.i64.wrap most) then bif bif true then vev12_2 Tk.imm (vev9_0 es) == decide ((↑es.length : Int) > (0 : Int)) else false then bif true then true else false else false else false else false), []) else none else none else none else none else none else none := by kernel_rfl
  rw [h]
  clear h
  unfold vev6_0 vev6_1
  generalize (vev12_2 Tk.imm (vev9_0 es) == decide ((↑es.length : Int) > (0 : Int))) = c0
  generalize (decide (IntKind.i64.wrap most > (0 : Int))) = c1
  generalize (vev17_0 Tk.imm (vev9_0 es) != (0 : Int)) = c2
  generalize (!vev19_0 Tk.imm (vev12_0 Tk.imm (vev9_0 es)) (IntKind.i64.wrap now) (IntKind.i64.wrap most)) = c3
  generalize (!vev19_0 Tk.imm (vev9_0 es) (rev6_0 es now most) (IntKind.i64.wrap most)) = c4
  generalize (!vev19_0 Tk.imm (vev9_0 es) (IntKind.i64.wrap now) (rev6_1 es now most)) = c5
  generalize (vev19_1 Tk.imm (vev12_0 Tk.imm (vev9_0 es)) (IntKind.i64.wrap now) (IntKind.i64.wrap most)) = c6
  generalize (vev19_1 Tk.imm (vev9_0 es) (rev6_0 es now most) (IntKind.i64.wrap most)) = c7
  generalize (vev19_1 Tk.imm (vev9_0 es) (IntKind.i64.wrap now) (rev6_1 es now most)) = c8
  generalize (vev19_0 Tk.imm (vev9_0 es) (IntKind.i64.wrap now) (IntKind.i64.wrap most)) = c9
  generalize (vev19_1 Tk.imm (vev9_0 es) (IntKind.i64.wrap now) (IntKind.i64.wrap most)) = c10
  generalize (!vev12_2 Tk.imm (vev9_0 es)) = c11
  generalize (!vev7_0 Tk.imm es) = c12
  generalize (vev17_1 Tk.imm (vev9_0 es)) = c13
  generalize (vev12_3 Tk.imm (vev9_0 es)) = c14
  generalize (vev7_1 Tk.imm es) = c15
  generalize (vev9_1 es) = c16
  cases c16
  · skip
    rfl
  · skip
    cases c15
    · skip
      rfl
    · skip
      cases c12
      · skip
        cases c13
        · skip
          rfl
        · skip
          cases c2
          · skip
            cases c10
            · skip
              rfl
            · skip
              cases c14
              · skip
                rfl
              · skip
                cases c9
                · skip
                  cases c6
                  · skip
                    rfl
                  · skip
                    cases c3
                    · skip
                      rfl
                    · skip
                      cases c0
                      · skip
                        rfl
                      · skip
                        rfl
                · skip
                  cases c7
                  · skip
                    rfl
                  · skip
                    cases c4
                    · skip
                      cases c1
                      · skip
                        cases c11
                        · skip
                          cases c0
                          · skip
                            rfl
                          · skip
                            rfl
                        · skip
                          rfl
                      · skip
                        cases c8
                        · skip
                          rfl
                        · skip
                          cases c5
                          · skip
                            cases c11
                            · skip
                              cases c0
                              · skip
                                rfl
                              · skip
                                rfl
                            · skip
                              rfl
                          · skip
                            rfl
                    · skip
                      rfl
          · skip
            rfl
      · skip
        rfl
-- spec vev6_1 es now most ;; (AV.bool (vev6_0 es now most), [])
-- law 6: loops (fun c _ => LoopsOK.none (fun _ _ => rfl) c) gam k11
end Go.Proofs.Gv
