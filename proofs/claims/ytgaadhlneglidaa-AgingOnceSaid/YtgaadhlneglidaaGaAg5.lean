import Derived.Test.YtgaadhlneglidaaGt
import Derived.KernelRfl
import Derived.Test.YtgaadhlneglidaaGwF
import Derived.Test.YtgaadhlneglidaaGaAg4
namespace Go.Proofs.Gv
open Go.Proofs
set_option linter.unusedVariables false
noncomputable def rev3_0 (l : Int) (es : List (List AV)) (a : Int) (b : Int) (c : Int) (d : Int) (q : Int) : List (List AV) := vev10_0 l (vev9_0 l es) a b c
noncomputable def rev3_1 (l : Int) (es : List (List AV)) (a : Int) (b : Int) (c : Int) (d : Int) (q : Int) : List (List AV) := vev17_0 l (rev3_0 l es a b c d q)
noncomputable def rev3_2 (l : Int) (es : List (List AV)) (a : Int) (b : Int) (c : Int) (d : Int) (q : Int) : List (List AV) := vev17_0 l (vev12_0 l (vev9_0 l es) a)
noncomputable def rev3_3 (l : Int) (es : List (List AV)) (a : Int) (b : Int) (c : Int) (d : Int) (q : Int) : List (List AV) := vev17_0 l (vev14_0 l (vev9_0 l es) q)
noncomputable def vev3_0 (l : Int) (es : List (List AV)) (a : Int) (b : Int) (c : Int) (d : Int) (q : Int) : Bool := bif !vev7_0 l Tk.imm es then true else bif vev17_1 l (rev3_0 l es a b c d q) then bif vev16_1 l Tk.imm (rev3_1 l es a b c d q) l Tk.imm (vev11_0 l es a b c) then bif vev16_0 l Tk.imm (rev3_1 l es a b c d q) l Tk.imm (vev11_0 l es a b c) then bif bif true then vev10_1 l (vev9_0 l es) a b c == vev11_1 l es a b c else false then bif vev17_1 l (vev12_0 l (vev9_0 l es) a) then bif vev16_1 l Tk.imm (rev3_2 l es a b c d q) l Tk.imm (vev13_0 l es a) then bif bif true then vev16_0 l Tk.imm (rev3_2 l es a b c d q) l Tk.imm (vev13_0 l es a) else false then bif bif true then vev12_1 l (vev9_0 l es) a == vev13_1 l es a else false then bif vev17_1 l (vev14_0 l (vev9_0 l es) q) then bif vev16_1 l Tk.imm (rev3_3 l es a b c d q) l Tk.imm (vev15_0 l es q) then bif bif true then vev16_0 l Tk.imm (rev3_3 l es a b c d q) l Tk.imm (vev15_0 l es q) else false then bif bif true then vev14_1 l (vev9_0 l es) q == vev15_1 l es q && (vev14_2 l (vev9_0 l es) q == vev15_2 l es q && (vev14_3 l (vev9_0 l es) q == vev15_3 l es q && (vev14_4 l (vev9_0 l es) q == vev15_4 l es q && true))) else false then bif bif true then vev14_5 l (vev9_0 l es) q == vev15_5 l es q else false then bif vev17_1 l (vev9_0 l es) then bif vev16_1 l Tk.imm (vev17_0 l (vev9_0 l es)) l Tk.imm es then bif bif true then vev16_0 l Tk.imm (vev17_0 l (vev9_0 l es)) l Tk.imm es else false then bif true then true else false else false else false else false else false else false else false else false else false else false else false else false else false else false else false else false else false
noncomputable def vev3_1 (l : Int) (es : List (List AV)) (a : Int) (b : Int) (c : Int) (d : Int) (q : Int) : Bool := bif !vev7_0 l Tk.imm es then true else bif vev9_1 l es then bif vev10_2 l (vev9_0 l es) a b c then bif vev11_2 l es a b c then bif vev12_2 l (vev9_0 l es) a then bif vev13_2 l es a then bif vev14_6 l (vev9_0 l es) q then bif vev15_6 l es q then bif bif vev17_1 l (rev3_0 l es a b c d q) then bif vev16_1 l Tk.imm (rev3_1 l es a b c d q) l Tk.imm (vev11_0 l es a b c) then bif vev16_0 l Tk.imm (rev3_1 l es a b c d q) l Tk.imm (vev11_0 l es a b c) then bif vev10_1 l (vev9_0 l es) a b c == vev11_1 l es a b c then bif vev17_1 l (vev12_0 l (vev9_0 l es) a) then bif vev16_1 l Tk.imm (rev3_2 l es a b c d q) l Tk.imm (vev13_0 l es a) then bif vev16_0 l Tk.imm (rev3_2 l es a b c d q) l Tk.imm (vev13_0 l es a) then bif vev12_1 l (vev9_0 l es) a == vev13_1 l es a then bif vev17_1 l (vev14_0 l (vev9_0 l es) q) then bif vev16_1 l Tk.imm (rev3_3 l es a b c d q) l Tk.imm (vev15_0 l es q) then bif vev16_0 l Tk.imm (rev3_3 l es a b c d q) l Tk.imm (vev15_0 l es q) then bif vev14_1 l (vev9_0 l es) q == vev15_1 l es q && (vev14_2 l (vev9_0 l es) q == vev15_2 l es q && (vev14_3 l (vev9_0 l es) q == vev15_3 l es q && (vev14_4 l (vev9_0 l es) q == vev15_4 l es q && true))) then bif vev14_5 l (vev9_0 l es) q == vev15_5 l es q then bif vev17_1 l (vev9_0 l es) then vev16_1 l Tk.imm (vev17_0 l (vev9_0 l es)) l Tk.imm es else false else true else true else true else false else false else true else true else false else false else true else true else false else false then true else false else false else false else false else false else false else false else false
theorem ev3 (l : Int) (es : List (List AV)) (a : Int) (b : Int) (c : Int) (d : Int) (q : Int) : evFun (cfg Try.prog tab 100000 (gk k17 30) noLsp 3 ([] : List Blk).length Try.f3.ntmps) Try.f3 [.agg [.int .i64 l, .sl .imm [.int .i64, .int .i64, .int .i64, .int .i64] es], .agg [.int .i64 a, .int .i64 b, .int .i64 c, .int .i64 d], .int .i64 q] [] = bif vev3_1 l es a b c d q then some (AV.bool (vev3_0 l es a b c d q), []) else none := by
  have h : evFun (cfg Try.prog tab 100000 (gk k17 30) noLsp 3 ([] : List Blk).length Try.f3.ntmps) Try.f3 [.agg [.int .i64 l, .sl .imm [.int .i64, .int .i64, .int .i64, .int .i64] es], .agg [.int .i64 a, .int .i64 b, .int .i64 c, .int .i64 d], .int .i64 q] [] = bif !vev7_0 l Tk.imm es then some (AV.bool true, []) else bif vev9_1 l es then bif vev10_2 l (vev9_0 l es) a b c then bif vev11_2 l es a b c then bif vev12_2 l (vev9_0 l es) a then bif vev13_2 l es a then bif vev14_6 l (vev9_0 l es) q then bif vev15_6 l es q then bif bif vev17_1 l (rev3_0 l es a b c d q) then bif vev16_1 l Tk.imm (rev3_1 l es a b c d q) l Tk.imm (vev11_0 l es a b c) then bif vev16_0 l Tk.imm (rev3_1 l es a b c d q) l Tk.imm (vev11_0 l es a b c) then bif bif true then vev10_1 l (vev9_0 l es) a b c == vev11_1 l es a b c else false then bif vev17_1 l (vev12_0 l (vev9_0 l es) a) then bif vev16_1 l Tk.imm (rev3_2 l es a b c d q) l Tk.imm (vev13_0 l es a) then bif bif true then vev16_0 l Tk.imm (rev3_2 l es a b c d q) l Tk.imm (vev13_0 l es a) else false then bif bif true then vev12_1 l (vev9_0 l es) a == vev13_1 l es a else false then bif vev17_1 l (vev14_0 l (vev9_0 l es) q) then bif vev16_1 l Tk.imm (rev3_3 l es a b c d q) l Tk.imm (vev15_0 l es q) then bif bif true then vev16_0 l Tk.imm (rev3_3 l es a b c d q) l Tk.imm (vev15_0 l es q) else false then bif bif true then vev14_1 l (vev9_0 l es) q == vev15_1 l es q && (vev14_2 l (vev9_0 l es) q == vev15_2 l es q && (vev14_3 l (vev9_0 l es) q == vev15_3 l es q && (vev14_4 l (vev9_0 l es) q == vev15_4 l es q && true))) else false then bif bif true then vev14_5 l (vev9_0 l es) q == vev15_5 l es q else false then bif vev17_1 l (vev9_0 l es) then bif vev16_1 l Tk.imm (vev17_0 l (vev9_0 l es)) l Tk.imm es then bif bif true then vev16_0 l Tk.imm (vev17_0 l (vev9_0 l es)) l Tk.imm es else false then true else true else false else false else true else true else true else false else false else true else true else false else false else true else true else false else false then some (AV.bool (bif vev17_1 l (rev3_0 l es a b c d q) then bif vev16_1 l Tk.imm (rev3_1 l es a b c d q) l Tk.imm (vev11_0 l es a b c) then bif vev16_0 l Tk.imm (rev3_1 l es a b c d q) l Tk.imm (vev11_0 l es a b c) then bif bif true then vev10_1 l (vev9_0 l es) a b c == vev11_1 l es a b c else false then bif vev17_1 l (vev12_0 l (vev9_0 l es) a) then bif vev16_1 l Tk.imm (rev3_2 l es a b c d q) l Tk.imm (vev13_0 l es a) then bif bif true then vev16_0 l Tk.imm (rev3_2 l es a b c d q) l Tk.imm (vev13_0 l es a) else false then bif bif true then vev12_1 l (vev9_0 l es) a == vev13_1 l es a else false then bif vev17_1 l (vev14_0 l (vev9_0 l es) q) then bif vev16_1 l Tk.imm (rev3_3 l es a b c d q) l Tk.imm (vev15_0 l es q) then bif bif true then vev16_0 l Tk.imm (rev3_3 l es a b c d q) l Tk.imm (vev15_0 l es q) else false then bif bif true then vev14_1 l (vev9_0 l es) q == vev15_1 l es q && (vev14_2 l (vev9_0 l es) q == vev15_2 l es q && (vev14_3 l (vev9_0 l es) q == vev15_3 l es q && (vev14_4 l (vev9_0 l es) q == vev15_4 l es q && true))) else false then bif bif true then vev14_5 l (vev9_0 l es) q == vev15_5 l es q else false then bif vev17_1 l (vev9_0 l es) then bif vev16_1 l Tk.imm (vev17_0 l (vev9_0 l es)) l Tk.imm es then bif bif true then vev16_0 l Tk.imm (vev17_0 l (vev9_0 l es)) l Tk.imm es else false then bif true then true else false else false else false else false else false else false else false else false else false else false else false else false else false else false else false else false else false), []) else none else none else none else none else none else none else none else none := by kernel_rfl
  rw [h]
  clear h
  unfold vev3_0 vev3_1
  generalize (vev14_1 l (vev9_0 l es) q == vev15_1 l es q && (vev14_2 l (vev9_0 l es) q == vev15_2 l es q && (vev14_3 l (vev9_0 l es) q == vev15_3 l es q && (vev14_4 l (vev9_0 l es) q == vev15_4 l es q && true)))) = c0
  generalize (vev16_0 l Tk.imm (rev3_1 l es a b c d q) l Tk.imm (vev11_0 l es a b c)) = c1
  generalize (vev16_1 l Tk.imm (rev3_1 l es a b c d q) l Tk.imm (vev11_0 l es a b c)) = c2
  generalize (vev10_1 l (vev9_0 l es) a b c == vev11_1 l es a b c) = c3
  generalize (vev16_0 l Tk.imm (rev3_2 l es a b c d q) l Tk.imm (vev13_0 l es a)) = c4
  generalize (vev16_0 l Tk.imm (rev3_3 l es a b c d q) l Tk.imm (vev15_0 l es q)) = c5
  generalize (vev16_1 l Tk.imm (rev3_3 l es a b c d q) l Tk.imm (vev15_0 l es q)) = c6
  generalize (vev16_1 l Tk.imm (rev3_2 l es a b c d q) l Tk.imm (vev13_0 l es a)) = c7
  generalize (vev12_1 l (vev9_0 l es) a == vev13_1 l es a) = c8
  generalize (vev14_5 l (vev9_0 l es) q == vev15_5 l es q) = c9
  generalize (vev16_0 l Tk.imm (vev17_0 l (vev9_0 l es)) l Tk.imm es) = c10
  generalize (vev16_1 l Tk.imm (vev17_0 l (vev9_0 l es)) l Tk.imm es) = c11
  generalize (vev17_1 l (rev3_0 l es a b c d q)) = c12
  generalize (vev17_1 l (vev14_0 l (vev9_0 l es) q)) = c13
  generalize (vev17_1 l (vev12_0 l (vev9_0 l es) a)) = c14
  generalize (vev10_2 l (vev9_0 l es) a b c) = c15
  generalize (vev14_6 l (vev9_0 l es) q) = c16
  generalize (vev12_2 l (vev9_0 l es) a) = c17
  generalize (vev11_2 l es a b c) = c18
  generalize (!vev7_0 l Tk.imm es) = c19
  generalize (vev17_1 l (vev9_0 l es)) = c20
  generalize (vev15_6 l es q) = c21
  generalize (vev13_2 l es a) = c22
  generalize (vev9_1 l es) = c23
  cases c19
  · skip
    cases c23
    · skip
      rfl
    · skip
      cases c15
      · skip
        rfl
      · skip
        cases c18
        · skip
          rfl
        · skip
          cases c17
          · skip
            rfl
          · skip
            cases c22
            · skip
              rfl
            · skip
              cases c16
              · skip
                rfl
              · skip
                cases c21
                · skip
                  rfl
                · skip
                  cases c12
                  · skip
                    rfl
                  · skip
                    cases c2
                    · skip
                      rfl
                    · skip
                      cases c1
                      · skip
                        rfl
                      · skip
                        cases c3
                        · skip
                          rfl
                        · skip
                          cases c14
                          · skip
                            rfl
                          · skip
                            cases c7
                            · skip
                              rfl
                            · skip
                              cases c4
                              · skip
                                rfl
                              · skip
                                cases c8
                                · skip
                                  rfl
                                · skip
                                  cases c13
                                  · skip
                                    rfl
                                  · skip
                                    cases c6
                                    · skip
                                      rfl
                                    · skip
                                      cases c5
                                      · skip
                                        rfl
                                      · skip
                                        cases c0
                                        · skip
                                          rfl
                                        · skip
                                          cases c9
                                          · skip
                                            rfl
                                          · skip
                                            cases c20
                                            · skip
                                              rfl
                                            · skip
                                              cases c11
                                              · skip
                                                rfl
                                              · skip
                                                cases c10
                                                · skip
                                                  rfl
                                                · skip
                                                  rfl
  · skip
    rfl
-- spec vev3_1 l es a b c d q ;; (AV.bool (vev3_0 l es a b c d q), [])
-- law 3: loops (fun c _ => LoopsOK.none (fun _ _ => rfl) c) gam k17
noncomputable def vev4_0 (l : Int) (es : List (List AV)) (l2 : Int) (es2 : List (List AV)) (n : Int) : Bool := bif bif !vev7_0 l Tk.imm es then true else !vev7_0 l2 Tk.imm es2 then true else bif vev9_1 l es then bif vev20_1 l Tk.imm (vev9_0 l es) then bif vev21_1 l Tk.imm es then bif vev20_0 l Tk.imm (vev9_0 l es) == vev21_0 l Tk.imm es then bif vev9_1 l es then bif vev22_1 l Tk.imm (vev9_0 l es) then bif vev23_1 l Tk.imm es then bif bif true then vev22_0 l Tk.imm (vev9_0 l es) == vev23_0 l Tk.imm es else false then bif vev9_1 l es then bif vev24_1 l Tk.imm (vev9_0 l es) then bif vev25_1 l Tk.imm es then bif bif true then vev24_0 l Tk.imm (vev9_0 l es) == vev25_0 l Tk.imm es else false then bif vev9_1 l es then bif vev9_1 l2 es2 then bif vev26_1 l Tk.imm (vev9_0 l es) l2 Tk.imm (vev9_0 l2 es2) then bif vev16_1 l Tk.imm es l2 Tk.imm es2 then bif bif true then vev26_0 l Tk.imm (vev9_0 l es) l2 Tk.imm (vev9_0 l2 es2) == vev16_0 l Tk.imm es l2 Tk.imm es2 else false then bif vev17_1 (vev18_0 n) [] then bif vev16_1 (vev18_0 n) Tk.imm (vev17_0 (vev18_0 n) []) (vev19_0 n) Tk.imm [] then bif bif true then vev16_0 (vev18_0 n) Tk.imm (vev17_0 (vev18_0 n) []) (vev19_0 n) Tk.imm [] else false then bif bif true then vev18_1 n == vev19_1 n else false then bif true then true else false else false else false else false else false else false else false else false else false else false else false else false else false else false else false else false else false else false else false else false else false else false
noncomputable def vev4_1 (l : Int) (es : List (List AV)) (l2 : Int) (es2 : List (List AV)) (n : Int) : Bool := bif bif !vev7_0 l Tk.imm es then true else !vev7_0 l2 Tk.imm es2 then true else bif bif vev9_1 l es then bif vev20_1 l Tk.imm (vev9_0 l es) then bif vev21_1 l Tk.imm es then bif vev20_0 l Tk.imm (vev9_0 l es) == vev21_0 l Tk.imm es then bif vev9_1 l es then bif vev22_1 l Tk.imm (vev9_0 l es) then bif vev23_1 l Tk.imm es then bif vev22_0 l Tk.imm (vev9_0 l es) == vev23_0 l Tk.imm es then bif vev9_1 l es then bif vev24_1 l Tk.imm (vev9_0 l es) then bif vev25_1 l Tk.imm es then bif vev24_0 l Tk.imm (vev9_0 l es) == vev25_0 l Tk.imm es then bif vev9_1 l es then bif vev9_1 l2 es2 then bif vev26_1 l Tk.imm (vev9_0 l es) l2 Tk.imm (vev9_0 l2 es2) then bif vev16_1 l Tk.imm es l2 Tk.imm es2 then bif vev26_0 l Tk.imm (vev9_0 l es) l2 Tk.imm (vev9_0 l2 es2) == vev16_0 l Tk.imm es l2 Tk.imm es2 then bif vev17_1 (vev18_0 n) [] then vev16_1 (vev18_0 n) Tk.imm (vev17_0 (vev18_0 n) []) (vev19_0 n) Tk.imm [] else false else true else false else false else false else false else true else false else false else false else true else false else false else false else true else false else false else false then true else false
theorem ev4 (l : Int) (es : List (List AV)) (l2 : Int) (es2 : List (List AV)) (n : Int) : evFun (cfg Try.prog tab 100000 (gk k17 30) noLsp 4 ([] : List Blk).length Try.f4.ntmps) Try.f4 [.agg [.int .i64 l, .sl .imm [.int .i64, .int .i64, .int .i64, .int .i64] es], .agg [.int .i64 l2, .sl .imm [.int .i64, .int .i64, .int .i64, .int .i64] es2], .int .i64 n] [] = bif vev4_1 l es l2 es2 n then some (AV.bool (vev4_0 l es l2 es2 n), []) else none := by
  have h : evFun (cfg Try.prog tab 100000 (gk k17 30) noLsp 4 ([] : List Blk).length Try.f4.ntmps) Try.f4 [.agg [.int .i64 l, .sl .imm [.int .i64, .int .i64, .int .i64, .int .i64] es], .agg [.int .i64 l2, .sl .imm [.int .i64, .int .i64, .int .i64, .int .i64] es2], .int .i64 n] [] = bif bif !vev7_0 l Tk.imm es then true else true then bif bif !vev7_0 l Tk.imm es then true else bif false then true else !vev7_0 l2 Tk.imm es2 then some (AV.bool true, []) else bif bif vev9_1 l es then bif vev20_1 l Tk.imm (vev9_0 l es) then bif vev21_1 l Tk.imm es then bif vev20_0 l Tk.imm (vev9_0 l es) == vev21_0 l Tk.imm es then bif vev9_1 l es then bif vev22_1 l Tk.imm (vev9_0 l es) then bif vev23_1 l Tk.imm es then bif bif true then vev22_0 l Tk.imm (vev9_0 l es) == vev23_0 l Tk.imm es else false then bif vev9_1 l es then bif vev24_1 l Tk.imm (vev9_0 l es) then bif vev25_1 l Tk.imm es then bif bif true then vev24_0 l Tk.imm (vev9_0 l es) == vev25_0 l Tk.imm es else false then bif vev9_1 l es then bif vev9_1 l2 es2 then bif vev26_1 l Tk.imm (vev9_0 l es) l2 Tk.imm (vev9_0 l2 es2) then bif vev16_1 l Tk.imm es l2 Tk.imm es2 then bif bif true then vev26_0 l Tk.imm (vev9_0 l es) l2 Tk.imm (vev9_0 l2 es2) == vev16_0 l Tk.imm es l2 Tk.imm es2 else false then bif vev17_1 (vev18_0 n) [] then bif vev16_1 (vev18_0 n) Tk.imm (vev17_0 (vev18_0 n) []) (vev19_0 n) Tk.imm [] then bif bif true then vev16_0 (vev18_0 n) Tk.imm (vev17_0 (vev18_0 n) []) (vev19_0 n) Tk.imm [] else false then bif bif true then vev18_1 n == vev19_1 n else false then true else true else true else false else false else true else false else false else false else false else true else false else false else false else true else false else false else false else true else false else false else false then some (AV.bool (bif vev9_1 l es then bif vev20_1 l Tk.imm (vev9_0 l es) then bif vev21_1 l Tk.imm es then bif vev20_0 l Tk.imm (vev9_0 l es) == vev21_0 l Tk.imm es then bif vev9_1 l es then bif vev22_1 l Tk.imm (vev9_0 l es) then bif vev23_1 l Tk.imm es then bif bif true then vev22_0 l Tk.imm (vev9_0 l es) == vev23_0 l Tk.imm es else false then bif vev9_1 l es then bif vev24_1 l Tk.imm (vev9_0 l es) then bif vev25_1 l Tk.imm es then bif bif true then vev24_0 l Tk.imm (vev9_0 l es) == vev25_0 l Tk.imm es else false then bif vev9_1 l es then bif vev9_1 l2 es2 then bif vev26_1 l Tk.imm (vev9_0 l es) l2 Tk.imm (vev9_0 l2 es2) then bif vev16_1 l Tk.imm es l2 Tk.imm es2 then bif bif true then vev26_0 l Tk.imm (vev9_0 l es) l2 Tk.imm (vev9_0 l2 es2) == vev16_0 l Tk.imm es l2 Tk.imm es2 else false then bif vev17_1 (vev18_0 n) [] then bif vev16_1 (vev18_0 n) Tk.imm (vev17_0 (vev18_0 n) []) (vev19_0 n) Tk.imm [] then bif bif true then vev16_0 (vev18_0 n) Tk.imm (vev17_0 (vev18_0 n) []) (vev19_0 n) Tk.imm [] else false then bif bif true then vev18_1 n == vev19_1 n else false then bif true then true else false else false else false else false else false else false else false else false else false else false else false else false else false else false else false else false else false else false else false else false else false else false), []) else none else none := by kernel_rfl
  rw [h]
  clear h
  unfold vev4_0 vev4_1
  generalize (vev26_0 l Tk.imm (vev9_0 l es) l2 Tk.imm (vev9_0 l2 es2) == vev16_0 l Tk.imm es l2 Tk.imm es2) = c0
  generalize (vev16_1 (vev18_0 n) Tk.imm (vev17_0 (vev18_0 n) []) (vev19_0 n) Tk.imm []) = c1
  generalize (vev16_0 (vev18_0 n) Tk.imm (vev17_0 (vev18_0 n) []) (vev19_0 n) Tk.imm []) = c2
  generalize (vev24_0 l Tk.imm (vev9_0 l es) == vev25_0 l Tk.imm es) = c3
  generalize (vev22_0 l Tk.imm (vev9_0 l es) == vev23_0 l Tk.imm es) = c4
  generalize (vev20_0 l Tk.imm (vev9_0 l es) == vev21_0 l Tk.imm es) = c5
  generalize (vev26_1 l Tk.imm (vev9_0 l es) l2 Tk.imm (vev9_0 l2 es2)) = c6
  generalize (vev18_1 n == vev19_1 n) = c7
  generalize (vev16_1 l Tk.imm es l2 Tk.imm es2) = c8
  generalize (vev24_1 l Tk.imm (vev9_0 l es)) = c9
  generalize (vev22_1 l Tk.imm (vev9_0 l es)) = c10
  generalize (vev20_1 l Tk.imm (vev9_0 l es)) = c11
  generalize (vev17_1 (vev18_0 n) []) = c12
  generalize (!vev7_0 l Tk.imm es) = c13
  generalize (!vev7_0 l2 Tk.imm es2) = c14
  generalize (vev21_1 l Tk.imm es) = c15
  generalize (vev25_1 l Tk.imm es) = c16
  generalize (vev23_1 l Tk.imm es) = c17
  generalize (vev9_1 l2 es2) = c18
  generalize (vev9_1 l es) = c19
  cases c13
  · skip
    cases c14
    · skip
      cases c19
      · skip
        rfl
      · skip
        cases c11
        · skip
          rfl
        · skip
          cases c15
          · skip
            rfl
          · skip
            cases c5
            · skip
              rfl
            · skip
              cases c10
              · skip
                rfl
              · skip
                cases c17
                · skip
                  rfl
                · skip
                  cases c4
                  · skip
                    rfl
                  · skip
                    cases c9
                    · skip
                      rfl
                    · skip
                      cases c16
                      · skip
                        rfl
                      · skip
                        cases c3
                        · skip
                          rfl
                        · skip
                          cases c18
                          · skip
                            rfl
                          · skip
                            cases c6
                            · skip
                              rfl
                            · skip
                              cases c8
                              · skip
                                rfl
                              · skip
                                cases c0
                                · skip
                                  rfl
                                · skip
                                  cases c12
                                  · skip
                                    rfl
                                  · skip
                                    cases c1
                                    · skip
                                      rfl
                                    · skip
                                      cases c2
                                      · skip
                                        rfl
                                      · skip
                                        cases c7
                                        · skip
                                          rfl
                                        · skip
                                          rfl
    · skip
      rfl
  · skip
    rfl
-- spec vev4_1 l es l2 es2 n ;; (AV.bool (vev4_0 l es l2 es2 n), [])
-- law 4: loops (fun c _ => LoopsOK.none (fun _ _ => rfl) c) gam k17
end Go.Proofs.Gv
