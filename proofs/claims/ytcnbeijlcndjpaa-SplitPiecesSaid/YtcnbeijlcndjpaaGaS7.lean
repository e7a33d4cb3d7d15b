import Derived.Test.YtcnbeijlcndjpaaGt
import Derived.KernelRfl
import Derived.Test.YtcnbeijlcndjpaaGwF
import Derived.Test.YtcnbeijlcndjpaaGaSp3
namespace Go.Proofs.Gv
open Go.Proofs
set_option linter.unusedVariables false
noncomputable def rev7_0 (bs : List (List AV)) (m : Int) (n : Int) : Int := IntKind.i64.wrap ((↑bs.length : Int) + (1 : Int))
noncomputable def rev7_1 (bs : List (List AV)) (m : Int) (n : Int) : Int := (IntKind.i64.wrap m).tmod (rev7_0 bs m n)
noncomputable def rev7_2 (bs : List (List AV)) (m : Int) (n : Int) : Int := IntKind.i64.wrap (IntKind.i64.wrap ((↑bs.length : Int) - rev7_1 bs m n) + (1 : Int))
noncomputable def rev7_3 (bs : List (List AV)) (m : Int) (n : Int) : List (List AV) := List.take (rev7_1 bs m n).toNat bs
noncomputable def rev7_4 (bs : List (List AV)) (m : Int) (n : Int) : Int := IntKind.i64.wrap (rev7_1 bs m n + (IntKind.i64.wrap n).tmod (rev7_2 bs m n))
noncomputable def rev7_5 (bs : List (List AV)) (m : Int) (n : Int) : Int := vev19_0 (0 : Int) (ByteArray.mk #[]).data.toList false (rev7_3 bs m n)
noncomputable def rev7_6 (bs : List (List AV)) (m : Int) (n : Int) : List UInt8 := vev19_1 (0 : Int) (ByteArray.mk #[]).data.toList false (rev7_3 bs m n)
noncomputable def rev7_7 (bs : List (List AV)) (m : Int) (n : Int) : List (List AV) := List.drop (rev7_1 bs m n).toNat (List.take (rev7_4 bs m n).toNat bs)
noncomputable def rev7_8 (bs : List (List AV)) (m : Int) (n : Int) : Int := vev19_0 (rev7_5 bs m n) (rev7_6 bs m n) (vev19_2 (0 : Int) (ByteArray.mk #[]).data.toList false (rev7_3 bs m n)) (rev7_7 bs m n)
noncomputable def rev7_9 (bs : List (List AV)) (m : Int) (n : Int) : List UInt8 := vev19_1 (rev7_5 bs m n) (rev7_6 bs m n) (vev19_2 (0 : Int) (ByteArray.mk #[]).data.toList false (rev7_3 bs m n)) (rev7_7 bs m n)
noncomputable def rev7_10 (bs : List (List AV)) (m : Int) (n : Int) : List (List AV) := List.drop (rev7_4 bs m n).toNat bs
noncomputable def rev7_11 (bs : List (List AV)) (m : Int) (n : Int) : List (List AV) := vev19_3 (0 : Int) (ByteArray.mk #[]).data.toList false (rev7_3 bs m n)
noncomputable def rev7_12 (bs : List (List AV)) (m : Int) (n : Int) : List (List AV) := List.replicate (0 : Nat) (List.map v2a0 #[Value.int IntKind.i64 (0 : Int), Value.int IntKind.u8 (0 : Int), Value.int IntKind.u8 (0 : Int), Value.int IntKind.i64 (0 : Int), Value.string (ByteArray.mk #[])].toList) ++ rev7_11 bs m n
noncomputable def rev7_13 (bs : List (List AV)) (m : Int) (n : Int) : List (List AV) := vev19_3 (rev7_5 bs m n) (rev7_6 bs m n) (vev19_2 (0 : Int) (ByteArray.mk #[]).data.toList false (rev7_3 bs m n)) (rev7_7 bs m n)
noncomputable def rev7_14 (bs : List (List AV)) (m : Int) (n : Int) : List (List AV) := rev7_12 bs m n ++ rev7_13 bs m n
noncomputable def rev7_15 (bs : List (List AV)) (m : Int) (n : Int) : List (List AV) := vev19_3 (rev7_8 bs m n) (rev7_9 bs m n) (vev19_2 (rev7_5 bs m n) (rev7_6 bs m n) (vev19_2 (0 : Int) (ByteArray.mk #[]).data.toList false (rev7_3 bs m n)) (rev7_7 bs m n)) (rev7_10 bs m n)
noncomputable def rev7_16 (bs : List (List AV)) (m : Int) (n : Int) : Int := vev19_0 (rev7_8 bs m n) (rev7_9 bs m n) (vev19_2 (rev7_5 bs m n) (rev7_6 bs m n) (vev19_2 (0 : Int) (ByteArray.mk #[]).data.toList false (rev7_3 bs m n)) (rev7_7 bs m n)) (rev7_10 bs m n)
noncomputable def rev7_17 (bs : List (List AV)) (m : Int) (n : Int) : List UInt8 := vev19_1 (rev7_8 bs m n) (rev7_9 bs m n) (vev19_2 (rev7_5 bs m n) (rev7_6 bs m n) (vev19_2 (0 : Int) (ByteArray.mk #[]).data.toList false (rev7_3 bs m n)) (rev7_7 bs m n)) (rev7_10 bs m n)
noncomputable def rev7_18 (bs : List (List AV)) (m : Int) (n : Int) : List (List AV) := rev7_14 bs m n ++ rev7_15 bs m n
noncomputable def rev7_19 (bs : List (List AV)) (m : Int) (n : Int) : List (List AV) := vev19_3 (0 : Int) (ByteArray.mk #[]).data.toList false bs
noncomputable def rev7_20 (bs : List (List AV)) (m : Int) (n : Int) : List (List AV) := vev22t_0 Tk.lent (rev7_18 bs m n)
noncomputable def rev7_21 (bs : List (List AV)) (m : Int) (n : Int) : List (List AV) := vev22t_0 Tk.imm (rev7_19 bs m n)
noncomputable def vev7_0 (bs : List (List AV)) (m : Int) (n : Int) : Bool := bif decide ((↑bs.length : Int) > (400 : Int)) then true else bif vev19_0 (0 : Int) (ByteArray.mk #[]).data.toList false bs == rev7_16 bs m n && (vev19_1 (0 : Int) (ByteArray.mk #[]).data.toList false bs == rev7_17 bs m n && (vev19_2 (0 : Int) (ByteArray.mk #[]).data.toList false bs == vev19_2 (rev7_8 bs m n) (rev7_9 bs m n) (vev19_2 (rev7_5 bs m n) (rev7_6 bs m n) (vev19_2 (0 : Int) (ByteArray.mk #[]).data.toList false (rev7_3 bs m n)) (rev7_7 bs m n)) (rev7_10 bs m n) && true)) then bif vev19_4 (0 : Int) (ByteArray.mk #[]).data.toList false bs == IntKind.u32.wrap (IntKind.u32.wrap (vev19_4 (0 : Int) (ByteArray.mk #[]).data.toList false (rev7_3 bs m n) + vev19_4 (rev7_5 bs m n) (rev7_6 bs m n) (vev19_2 (0 : Int) (ByteArray.mk #[]).data.toList false (rev7_3 bs m n)) (rev7_7 bs m n)) + vev19_4 (rev7_8 bs m n) (rev7_9 bs m n) (vev19_2 (rev7_5 bs m n) (rev7_6 bs m n) (vev19_2 (0 : Int) (ByteArray.mk #[]).data.toList false (rev7_3 bs m n)) (rev7_7 bs m n)) (rev7_10 bs m n)) then bif vev21_0 Tk.imm Tk.imm (rev7_20 bs m n) (rev7_21 bs m n) then bif vev23_0 (rev7_16 bs m n) (rev7_17 bs m n) (vev19_2 (rev7_8 bs m n) (rev7_9 bs m n) (vev19_2 (rev7_5 bs m n) (rev7_6 bs m n) (vev19_2 (0 : Int) (ByteArray.mk #[]).data.toList false (rev7_3 bs m n)) (rev7_7 bs m n)) (rev7_10 bs m n)) == (0 : Int) then bif true then true else false else false else false else false else false
noncomputable def vev7_1 (bs : List (List AV)) (m : Int) (n : Int) : Bool := bif decide ((↑bs.length : Int) > (400 : Int)) then true else bif !rev7_0 bs m n == (0 : Int) then bif !rev7_2 bs m n == (0 : Int) then bif vev19_5 (0 : Int) (ByteArray.mk #[]).data.toList false bs then bif bnd (0 : Int) (rev7_1 bs m n) (↑bs.length : Int) then bif vev19_5 (0 : Int) (ByteArray.mk #[]).data.toList false (rev7_3 bs m n) then bif bnd (rev7_1 bs m n) (rev7_4 bs m n) (↑bs.length : Int) then bif vev19_5 (rev7_5 bs m n) (rev7_6 bs m n) (vev19_2 (0 : Int) (ByteArray.mk #[]).data.toList false (rev7_3 bs m n)) (rev7_7 bs m n) then bif bnd (rev7_4 bs m n) (↑bs.length : Int) (↑bs.length : Int) then bif vev19_5 (rev7_8 bs m n) (rev7_9 bs m n) (vev19_2 (rev7_5 bs m n) (rev7_6 bs m n) (vev19_2 (0 : Int) (ByteArray.mk #[]).data.toList false (rev7_3 bs m n)) (rev7_7 bs m n)) (rev7_10 bs m n) then bif bif decide (((0 : Nat) + (rev7_11 bs m n).length) * (40 : Nat) ≤ (140737488355328 : Nat)) then decide ((0 : Nat) + (rev7_11 bs m n).length ≤ (9223372036854775807 : Nat)) else false then bif bif decide (((rev7_12 bs m n).length + (rev7_13 bs m n).length) * (40 : Nat) ≤ (140737488355328 : Nat)) then decide ((rev7_12 bs m n).length + (rev7_13 bs m n).length ≤ (9223372036854775807 : Nat)) else false then bif bif decide (((rev7_14 bs m n).length + (rev7_15 bs m n).length) * (40 : Nat) ≤ (140737488355328 : Nat)) then decide ((rev7_14 bs m n).length + (rev7_15 bs m n).length ≤ (9223372036854775807 : Nat)) else false then bif vev19_0 (0 : Int) (ByteArray.mk #[]).data.toList false bs == rev7_16 bs m n && (vev19_1 (0 : Int) (ByteArray.mk #[]).data.toList false bs == rev7_17 bs m n && (vev19_2 (0 : Int) (ByteArray.mk #[]).data.toList false bs == vev19_2 (rev7_8 bs m n) (rev7_9 bs m n) (vev19_2 (rev7_5 bs m n) (rev7_6 bs m n) (vev19_2 (0 : Int) (ByteArray.mk #[]).data.toList false (rev7_3 bs m n)) (rev7_7 bs m n)) (rev7_10 bs m n) && true)) then bif vev19_4 (0 : Int) (ByteArray.mk #[]).data.toList false bs == IntKind.u32.wrap (IntKind.u32.wrap (vev19_4 (0 : Int) (ByteArray.mk #[]).data.toList false (rev7_3 bs m n) + vev19_4 (rev7_5 bs m n) (rev7_6 bs m n) (vev19_2 (0 : Int) (ByteArray.mk #[]).data.toList false (rev7_3 bs m n)) (rev7_7 bs m n)) + vev19_4 (rev7_8 bs m n) (rev7_9 bs m n) (vev19_2 (rev7_5 bs m n) (rev7_6 bs m n) (vev19_2 (0 : Int) (ByteArray.mk #[]).data.toList false (rev7_3 bs m n)) (rev7_7 bs m n)) (rev7_10 bs m n)) then bif vev22t_1 Tk.lent (rev7_18 bs m n) then bif vev22t_1 Tk.imm (rev7_19 bs m n) then bif vev21_1 Tk.imm Tk.imm (rev7_20 bs m n) (rev7_21 bs m n) then bif vev21_0 Tk.imm Tk.imm (rev7_20 bs m n) (rev7_21 bs m n) then bif vev33_5 (rev7_17 bs m n) then true else false else true else false else false else false else true else true else false else false else false else false else false else false else false else false else false else false else false else false
theorem ev7 (bs : List (List AV)) (m : Int) (n : Int) : evFun (cfg Try.prog tab 100000 (gk k22t 30) noLsp 7 ([] : List Blk).length Try.f7.ntmps) Try.f7 [.sl .imm [.int .u8] bs, .int .u16 m, .int .u16 n] [] = bif vev7_1 bs m n then some (AV.bool (vev7_0 bs m n), []) else none := by
  have h : evFun (cfg Try.prog tab 100000 (gk k22t 30) noLsp 7 ([] : List Blk).length Try.f7.ntmps) Try.f7 [.sl .imm [.int .u8] bs, .int .u16 m, .int .u16 n] [] = bif decide ((↑bs.length : Int) > (400 : Int)) then some (AV.bool true, []) else bif !rev7_0 bs m n == (0 : Int) then bif !rev7_2 bs m n == (0 : Int) then bif vev19_5 (0 : Int) (ByteArray.mk #[]).data.toList false bs then bif bnd (0 : Int) (rev7_1 bs m n) (↑bs.length : Int) then bif vev19_5 (0 : Int) (ByteArray.mk #[]).data.toList false (rev7_3 bs m n) then bif bnd (rev7_1 bs m n) (rev7_4 bs m n) (↑bs.length : Int) then bif vev19_5 (rev7_5 bs m n) (rev7_6 bs m n) (vev19_2 (0 : Int) (ByteArray.mk #[]).data.toList false (rev7_3 bs m n)) (rev7_7 bs m n) then bif bnd (rev7_4 bs m n) (↑bs.length : Int) (↑bs.length : Int) then bif vev19_5 (rev7_8 bs m n) (rev7_9 bs m n) (vev19_2 (rev7_5 bs m n) (rev7_6 bs m n) (vev19_2 (0 : Int) (ByteArray.mk #[]).data.toList false (rev7_3 bs m n)) (rev7_7 bs m n)) (rev7_10 bs m n) then bif bif decide (((0 : Nat) + (rev7_11 bs m n).length) * (40 : Nat) ≤ (140737488355328 : Nat)) then decide ((0 : Nat) + (rev7_11 bs m n).length ≤ (9223372036854775807 : Nat)) else false then bif bif decide (((rev7_12 bs m n).length + (rev7_13 bs m n).length) * (40 : Nat) ≤ (140737488355328 : Nat)) then decide ((rev7_12 bs m n).length + (rev7_13 bs m n).length ≤ (9223372036854775807 : Nat)) else false then bif bif decide (((rev7_14 bs m n).length + (rev7_15 bs m n).length) * (40 : Nat) ≤ (140737488355328 : Nat)) then decide ((rev7_14 bs m n).length + (rev7_15 bs m n).length ≤ (9223372036854775807 : Nat)) else false then bif vev19_0 (0 : Int) (ByteArray.mk #[]).data.toList false bs == rev7_16 bs m n && (vev19_1 (0 : Int) (ByteArray.mk #[]).data.toList false bs == rev7_17 bs m n && (vev19_2 (0 : Int) (ByteArray.mk #[]).data.toList false bs == vev19_2 (rev7_8 bs m n) (rev7_9 bs m n) (vev19_2 (rev7_5 bs m n) (rev7_6 bs m n) (vev19_2 (0 : Int) (ByteArray.mk #[]).data.toList false (rev7_3 bs m n)) (rev7_7 bs m n)) (rev7_10 bs m n) && true)) then bif bif true then vev19_4 (0 : Int) (ByteArray.mk #[]).data.toList false bs == IntKind.u32.wrap (IntKind.u32.wrap (vev19_4 (0 : Int) (ByteArray.mk #[]).data.toList false (rev7_3 bs m n) + vev19_4 (rev7_5 bs m n) (rev7_6 bs m n) (vev19_2 (0 : Int) (ByteArray.mk #[]).data.toList false (rev7_3 bs m n)) (rev7_7 bs m n)) + vev19_4 (rev7_8 bs m n) (rev7_9 bs m n) (vev19_2 (rev7_5 bs m n) (rev7_6 bs m n) (vev19_2 (0 : Int) (ByteArray.mk #[]).data.toList false (rev7_3 bs m n)) (rev7_7 bs m n)) (rev7_10 bs m n)) else false then bif vev22t_1 Tk.lent (rev7_18 bs m n) then bif vev22t_1 Tk.imm (rev7_19 bs m n) then bif vev21_1 Tk.imm Tk.imm (rev7_20 bs m n) (rev7_21 bs m n) then bif bif true then vev21_0 Tk.imm Tk.imm (rev7_20 bs m n) (rev7_21 bs m n) else false then bif bif vev33_5 (rev7_17 bs m n) then true else false then bif bif true then vev23_0 (rev7_16 bs m n) (rev7_17 bs m n) (vev19_2 (rev7_8 bs m n) (rev7_9 bs m n) (vev19_2 (rev7_5 bs m n) (rev7_6 bs m n) (vev19_2 (0 : Int) (ByteArray.mk #[]).data.toList false (rev7_3 bs m n)) (rev7_7 bs m n)) (rev7_10 bs m n)) == (0 : Int) else false then some (AV.bool (bif true then true else false), []) else some (AV.bool false, []) else none else some (AV.bool false, []) else none else none else none else some (AV.bool false, []) else some (AV.bool false, []) else none else none else none else none else none else none else none else none else none else none else none else none := by kernel_rfl
  rw [h]
  clear h
  unfold vev7_0 vev7_1
  generalize (vev19_4 (0 : Int) (ByteArray.mk #[]).data.toList false bs == IntKind.u32.wrap (IntKind.u32.wrap (vev19_4 (0 : Int) (ByteArray.mk #[]).data.toList false (rev7_3 bs m n) + vev19_4 (rev7_5 bs m n) (rev7_6 bs m n) (vev19_2 (0 : Int) (ByteArray.mk #[]).data.toList false (rev7_3 bs m n)) (rev7_7 bs m n)) + vev19_4 (rev7_8 bs m n) (rev7_9 bs m n) (vev19_2 (rev7_5 bs m n) (rev7_6 bs m n) (vev19_2 (0 : Int) (ByteArray.mk #[]).data.toList false (rev7_3 bs m n)) (rev7_7 bs m n)) (rev7_10 bs m n))) = c0
  generalize (vev19_0 (0 : Int) (ByteArray.mk #[]).data.toList false bs == rev7_16 bs m n && (vev19_1 (0 : Int) (ByteArray.mk #[]).data.toList false bs == rev7_17 bs m n && (vev19_2 (0 : Int) (ByteArray.mk #[]).data.toList false bs == vev19_2 (rev7_8 bs m n) (rev7_9 bs m n) (vev19_2 (rev7_5 bs m n) (rev7_6 bs m n) (vev19_2 (0 : Int) (ByteArray.mk #[]).data.toList false (rev7_3 bs m n)) (rev7_7 bs m n)) (rev7_10 bs m n) && true))) = c1
  generalize (decide (((rev7_12 bs m n).length + (rev7_13 bs m n).length) * (40 : Nat) ≤ (140737488355328 : Nat))) = c2
  generalize (decide (((rev7_14 bs m n).length + (rev7_15 bs m n).length) * (40 : Nat) ≤ (140737488355328 : Nat))) = c3
  generalize (decide (((0 : Nat) + (rev7_11 bs m n).length) * (40 : Nat) ≤ (140737488355328 : Nat))) = c4
  generalize (vev23_0 (rev7_16 bs m n) (rev7_17 bs m n) (vev19_2 (rev7_8 bs m n) (rev7_9 bs m n) (vev19_2 (rev7_5 bs m n) (rev7_6 bs m n) (vev19_2 (0 : Int) (ByteArray.mk #[]).data.toList false (rev7_3 bs m n)) (rev7_7 bs m n)) (rev7_10 bs m n)) == (0 : Int)) = c5
  generalize (decide ((rev7_14 bs m n).length + (rev7_15 bs m n).length ≤ (9223372036854775807 : Nat))) = c6
  generalize (decide ((rev7_12 bs m n).length + (rev7_13 bs m n).length ≤ (9223372036854775807 : Nat))) = c7
  generalize (decide ((0 : Nat) + (rev7_11 bs m n).length ≤ (9223372036854775807 : Nat))) = c8
  generalize (vev19_5 (rev7_8 bs m n) (rev7_9 bs m n) (vev19_2 (rev7_5 bs m n) (rev7_6 bs m n) (vev19_2 (0 : Int) (ByteArray.mk #[]).data.toList false (rev7_3 bs m n)) (rev7_7 bs m n)) (rev7_10 bs m n)) = c9
  generalize (vev19_5 (rev7_5 bs m n) (rev7_6 bs m n) (vev19_2 (0 : Int) (ByteArray.mk #[]).data.toList false (rev7_3 bs m n)) (rev7_7 bs m n)) = c10
  generalize (decide ((↑bs.length : Int) > (400 : Int))) = c11
  generalize (bnd (rev7_4 bs m n) (↑bs.length : Int) (↑bs.length : Int)) = c12
  generalize (vev19_5 (0 : Int) (ByteArray.mk #[]).data.toList false (rev7_3 bs m n)) = c13
  generalize (bnd (0 : Int) (rev7_1 bs m n) (↑bs.length : Int)) = c14
  generalize (vev19_5 (0 : Int) (ByteArray.mk #[]).data.toList false bs) = c15
  generalize (bnd (rev7_1 bs m n) (rev7_4 bs m n) (↑bs.length : Int)) = c16
  generalize (!rev7_2 bs m n == (0 : Int)) = c17
  generalize (!rev7_0 bs m n == (0 : Int)) = c18
  generalize (vev21_1 Tk.imm Tk.imm (rev7_20 bs m n) (rev7_21 bs m n)) = c19
  generalize (vev21_0 Tk.imm Tk.imm (rev7_20 bs m n) (rev7_21 bs m n)) = c20
  generalize (vev22t_1 Tk.imm (rev7_19 bs m n)) = c21
  generalize (vev22t_1 Tk.lent (rev7_18 bs m n)) = c22
  generalize (vev33_5 (rev7_17 bs m n)) = c23
  cases c11
  · skip
    cases c18
    · skip
      rfl
    · skip
      cases c17
      · skip
        rfl
      · skip
        cases c15
        · skip
          rfl
        · skip
          cases c14
          · skip
            rfl
          · skip
            cases c13
            · skip
              rfl
            · skip
              cases c16
              · skip
                rfl
              · skip
                cases c10
                · skip
                  rfl
                · skip
                  cases c12
                  · skip
                    rfl
                  · skip
                    cases c9
                    · skip
                      rfl
                    · skip
                      cases c4
                      · skip
                        rfl
                      · skip
                        cases c8
                        · skip
                          rfl
                        · skip
                          cases c2
                          · skip
                            rfl
                          · skip
                            cases c7
                            · skip
                              rfl
                            · skip
                              cases c3
                              · skip
                                rfl
                              · skip
                                cases c6
                                · skip
                                  rfl
                                · skip
                                  cases c1
                                  · skip
                                    rfl
                                  · skip
                                    cases c0
                                    · skip
                                      rfl
                                    · skip
                                      cases c22
                                      · skip
                                        rfl
                                      · skip
                                        cases c21
                                        · skip
                                          rfl
                                        · skip
                                          cases c19
                                          · skip
                                            rfl
                                          · skip
                                            cases c20
                                            · skip
                                              rfl
                                            · skip
                                              cases c23
                                              · skip
                                                rfl
                                              · skip
                                                cases c5
                                                · skip
                                                  rfl
                                                · skip
                                                  rfl
  · skip
    rfl
-- spec vev7_1 bs m n ;; (AV.bool (vev7_0 bs m n), [])
-- law 7: loops (fun c _ => LoopsOK.none (fun _ _ => rfl) c) gam k22t
end Go.Proofs.Gv
