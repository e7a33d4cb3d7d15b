import Derived.Test.YtcnbeijlcndjpaaGt
import Derived.KernelRfl
import Derived.Test.YtcnbeijlcndjpaaGwF
import Derived.Test.YtcnbeijlcndjpaaGaSp2
namespace Go.Proofs.Gv
open Go.Proofs
set_option linter.unusedVariables false
noncomputable def vev6_0 (g : Int) (s : List UInt8) (d : Bool) (bs : List (List AV)) : Bool := bif bif decide ((↑s.length : Int) > (400 : Int)) then true else decide ((↑bs.length : Int) > (400 : Int)) then true else bif vev19_0 g s d bs == vev20_0 g s d bs && (vev19_1 g s d bs == vev20_1 g s d bs && (vev19_2 g s d bs == vev20_2 g s d bs && true)) then bif vev22_1 (vev19_3 g s d bs) then bif vev21_1 Tk.imm Tk.imm (vev22_0 (vev19_3 g s d bs)) (vev20_3 g s d bs) then bif bif true then vev21_0 Tk.imm Tk.imm (vev22_0 (vev19_3 g s d bs)) (vev20_3 g s d bs) else false then bif bif true then IntKind.i64.wrap (vev19_4 g s d bs) == vev20_4 g s d bs else false then bif bif vev33_5 s then true else false then bif vev24_1 g s d then bif bif true then vev23_0 g s d == vev24_0 g s d else false then bif vev25_1 g s d then bif vev26_1 g s d then bif bif true then vev25_0 g s d == vev26_0 g s d else false then bif bif true then vev27_0 g s d (vev20_0 g s d bs) (vev20_1 g s d bs) (vev20_2 g s d bs) == (g == vev20_0 g s d bs && (s == vev20_1 g s d bs && (d == vev20_2 g s d bs && true))) else false then bif true then true else false else false else false else false else false else false else false else false else false else false else false else false else false
noncomputable def vev6_1 (g : Int) (s : List UInt8) (d : Bool) (bs : List (List AV)) : Bool := bif bif decide ((↑s.length : Int) > (400 : Int)) then true else decide ((↑bs.length : Int) > (400 : Int)) then true else bif vev19_5 g s d bs then bif vev20_5 g s d bs then bif bif vev19_0 g s d bs == vev20_0 g s d bs && (vev19_1 g s d bs == vev20_1 g s d bs && (vev19_2 g s d bs == vev20_2 g s d bs && true)) then bif vev22_1 (vev19_3 g s d bs) then bif vev21_1 Tk.imm Tk.imm (vev22_0 (vev19_3 g s d bs)) (vev20_3 g s d bs) then bif vev21_0 Tk.imm Tk.imm (vev22_0 (vev19_3 g s d bs)) (vev20_3 g s d bs) then bif IntKind.i64.wrap (vev19_4 g s d bs) == vev20_4 g s d bs then bif vev33_5 s then bif vev24_1 g s d then bif vev23_0 g s d == vev24_0 g s d then bif vev25_1 g s d then vev26_1 g s d else false else true else false else false else true else true else false else false else true then true else false else false else false
theorem ev6 (g : Int) (s : List UInt8) (d : Bool) (bs : List (List AV)) : evFun (cfg Try.prog tab 100000 (gk k18 30) noLsp 6 ([] : List Blk).length Try.f6.ntmps) Try.f6 [.agg [.int .i64 g, .str s, .bool d], .sl .imm [.int .u8] bs] [] = bif vev6_1 g s d bs then some (AV.bool (vev6_0 g s d bs), []) else none := by
  have h : evFun (cfg Try.prog tab 100000 (gk k18 30) noLsp 6 ([] : List Blk).length Try.f6.ntmps) Try.f6 [.agg [.int .i64 g, .str s, .bool d], .sl .imm [.int .u8] bs] [] = bif bif decide ((↑s.length : Int) > (400 : Int)) then true else true then bif bif decide ((↑s.length : Int) > (400 : Int)) then true else bif false then true else decide ((↑bs.length : Int) > (400 : Int)) then some (AV.bool true, []) else bif vev19_5 g s d bs then bif vev20_5 g s d bs then bif bif vev19_0 g s d bs == vev20_0 g s d bs && (vev19_1 g s d bs == vev20_1 g s d bs && (vev19_2 g s d bs == vev20_2 g s d bs && true)) then bif vev22_1 (vev19_3 g s d bs) then bif vev21_1 Tk.imm Tk.imm (vev22_0 (vev19_3 g s d bs)) (vev20_3 g s d bs) then bif bif true then vev21_0 Tk.imm Tk.imm (vev22_0 (vev19_3 g s d bs)) (vev20_3 g s d bs) else false then bif bif true then IntKind.i64.wrap (vev19_4 g s d bs) == vev20_4 g s d bs else false then bif bif vev33_5 s then true else false then bif vev24_1 g s d then bif bif true then vev23_0 g s d == vev24_0 g s d else false then bif vev25_1 g s d then bif vev26_1 g s d then bif bif true then vev25_0 g s d == vev26_0 g s d else false then bif bif true then vev27_0 g s d (vev20_0 g s d bs) (vev20_1 g s d bs) (vev20_2 g s d bs) == (g == vev20_0 g s d bs && (s == vev20_1 g s d bs && (d == vev20_2 g s d bs && true))) else false then true else true else true else false else false else true else false else false else true else true else false else false else true then some (AV.bool (bif vev19_0 g s d bs == vev20_0 g s d bs && (vev19_1 g s d bs == vev20_1 g s d bs && (vev19_2 g s d bs == vev20_2 g s d bs && true)) then bif vev22_1 (vev19_3 g s d bs) then bif vev21_1 Tk.imm Tk.imm (vev22_0 (vev19_3 g s d bs)) (vev20_3 g s d bs) then bif bif true then vev21_0 Tk.imm Tk.imm (vev22_0 (vev19_3 g s d bs)) (vev20_3 g s d bs) else false then bif bif true then IntKind.i64.wrap (vev19_4 g s d bs) == vev20_4 g s d bs else false then bif bif vev33_5 s then true else false then bif vev24_1 g s d then bif bif true then vev23_0 g s d == vev24_0 g s d else false then bif vev25_1 g s d then bif vev26_1 g s d then bif bif true then vev25_0 g s d == vev26_0 g s d else false then bif bif true then vev27_0 g s d (vev20_0 g s d bs) (vev20_1 g s d bs) (vev20_2 g s d bs) == (g == vev20_0 g s d bs && (s == vev20_1 g s d bs && (d == vev20_2 g s d bs && true))) else false then bif true then true else false else false else false else false else false else false else false else false else false else false else false else false else false), []) else none else none else none else none := by kernel_rfl
  rw [h]
  clear h
  unfold vev6_0 vev6_1
  generalize (vev27_0 g s d (vev20_0 g s d bs) (vev20_1 g s d bs) (vev20_2 g s d bs) == (g == vev20_0 g s d bs && (s == vev20_1 g s d bs && (d == vev20_2 g s d bs && true)))) = c0
  generalize (vev19_0 g s d bs == vev20_0 g s d bs && (vev19_1 g s d bs == vev20_1 g s d bs && (vev19_2 g s d bs == vev20_2 g s d bs && true))) = c1
  generalize (decide ((↑bs.length : Int) > (400 : Int))) = c2
  generalize (decide ((↑s.length : Int) > (400 : Int))) = c3
  generalize (IntKind.i64.wrap (vev19_4 g s d bs) == vev20_4 g s d bs) = c4
  generalize (vev21_0 Tk.imm Tk.imm (vev22_0 (vev19_3 g s d bs)) (vev20_3 g s d bs)) = c5
  generalize (vev21_1 Tk.imm Tk.imm (vev22_0 (vev19_3 g s d bs)) (vev20_3 g s d bs)) = c6
  generalize (vev23_0 g s d == vev24_0 g s d) = c7
  generalize (vev25_0 g s d == vev26_0 g s d) = c8
  generalize (vev22_1 (vev19_3 g s d bs)) = c9
  generalize (vev20_5 g s d bs) = c10
  generalize (vev19_5 g s d bs) = c11
  generalize (vev24_1 g s d) = c12
  generalize (vev25_1 g s d) = c13
  generalize (vev26_1 g s d) = c14
  generalize (vev33_5 s) = c15
  cases c3
  · skip
    cases c2
    · skip
      cases c11
      · skip
        rfl
      · skip
        cases c10
        · skip
          rfl
        · skip
          cases c1
          · skip
            rfl
          · skip
            cases c9
            · skip
              rfl
            · skip
              cases c6
              · skip
                rfl
              · skip
                cases c5
                · skip
                  rfl
                · skip
                  cases c4
                  · skip
                    rfl
                  · skip
                    cases c15
                    · skip
                      rfl
                    · skip
                      cases c12
                      · skip
                        rfl
                      · skip
                        cases c7
                        · skip
                          rfl
                        · skip
                          cases c13
                          · skip
                            rfl
                          · skip
                            cases c14
                            · skip
                              rfl
                            · skip
                              cases c8
                              · skip
                                rfl
                              · skip
                                cases c0
                                · skip
                                  rfl
                                · skip
                                  rfl
    · skip
      rfl
  · skip
    rfl
-- spec vev6_1 g s d bs ;; (AV.bool (vev6_0 g s d bs), [])
-- law 6: loops (fun c _ => LoopsOK.none (fun _ _ => rfl) c) gam k18
end Go.Proofs.Gv
