import Derived.Test.YtndephedgodneaaGsPar9
namespace Go.Proofs.Gv
open Go.Proofs
set_option linter.unusedVariables false
noncomputable def vev9_0 (a : Int) (m : Int) (bs : List (List AV)) (e : Bool) : Bool := bif bif decide ((↑bs.length : Int) > (5000 : Int)) then true else bif decide (m ≥ (1 : Int)) then bif !m == (0 : Int) then decide (IntKind.i64.wrap ((↑bs.length : Int).tdiv m) > (10 : Int)) else false else false then true else bif bif (↑(vev32_0 a bs e m).length : Int) != (↑(vev33_0 a bs e m).length : Int) then true else vev32_1 a bs e m != vev33_1 a bs e m then false else true
noncomputable def vev9_1 (a : Int) (m : Int) (bs : List (List AV)) (e : Bool) : Bool := bif bif decide ((↑bs.length : Int) > (5000 : Int)) then true else bif decide (m ≥ (1 : Int)) then !m == (0 : Int) else true then bif bif decide ((↑bs.length : Int) > (5000 : Int)) then true else bif decide (m ≥ (1 : Int)) then bif !m == (0 : Int) then decide (IntKind.i64.wrap ((↑bs.length : Int).tdiv m) > (10 : Int)) else false else false then true else bif vev32_2 a bs e m then bif vev33_2 a bs e m then bif bif (↑(vev32_0 a bs e m).length : Int) != (↑(vev33_0 a bs e m).length : Int) then true else vev32_1 a bs e m != vev33_1 a bs e m then true else bif (sp9L (vev32_0 a bs e m, vev33_0 a bs e m, nat_lit 0)).fst then true else false else false else false else false
theorem ev9 (a : Int) (m : Int) (bs : List (List AV)) (e : Bool) : evFun (cfg Try.prog tab 100000 (gk k14 30) lsp9 9 ([] : List Blk).length Try.f9.ntmps) Try.f9 [.agg [.int .i64 a, .int .i64 m], .sl .imm [.int .u8] bs, .bool e] [] = bif vev9_1 a m bs e then some (AV.bool (vev9_0 a m bs e), []) else none := by
  have h : evFun (cfg Try.prog tab 100000 (gk k14 30) lsp9 9 ([] : List Blk).length Try.f9.ntmps) Try.f9 [.agg [.int .i64 a, .int .i64 m], .sl .imm [.int .u8] bs, .bool e] [] = bif bif decide ((↑bs.length : Int) > (5000 : Int)) then true else bif decide (m ≥ (1 : Int)) then bif !m == (0 : Int) then true else false else true then bif bif decide ((↑bs.length : Int) > (5000 : Int)) then true else bif decide (m ≥ (1 : Int)) then bif !m == (0 : Int) then bif false then true else bif true then decide (IntKind.i64.wrap ((↑bs.length : Int).tdiv m) > (10 : Int)) else false else false else bif false then true else false then some (AV.bool true, []) else bif vev32_2 a bs e m then bif vev33_2 a bs e m then bif bif (↑(vev32_0 a bs e m).length : Int) != (↑(vev33_0 a bs e m).length : Int) then true else true then bif bif (↑(vev32_0 a bs e m).length : Int) != (↑(vev33_0 a bs e m).length : Int) then true else bif false then true else vev32_1 a bs e m != vev33_1 a bs e m then some (AV.bool false, []) else bif (sp9L (vev32_0 a bs e m, vev33_0 a bs e m, nat_lit 0)).fst then some (AV.bool true, []) else none else none else none else none else none := by kernel_rfl
  rw [h]
  clear h
  unfold vev9_0 vev9_1
  generalize ((sp9L (vev32_0 a bs e m, vev33_0 a bs e m, nat_lit 0)).fst) = c0
  generalize (decide (IntKind.i64.wrap ((↑bs.length : Int).tdiv m) > (10 : Int))) = c1
  generalize (decide ((↑bs.length : Int) > (5000 : Int))) = c2
  generalize ((↑(vev32_0 a bs e m).length : Int) != (↑(vev33_0 a bs e m).length : Int)) = c3
  generalize (decide (m ≥ (1 : Int))) = c4
  generalize (vev32_1 a bs e m != vev33_1 a bs e m) = c5
  generalize (!m == (0 : Int)) = c6
  generalize (vev32_2 a bs e m) = c7
  generalize (vev33_2 a bs e m) = c8
  cases c2
  · skip
    cases c4
    · skip
      cases c7
      · skip
        rfl
      · skip
        cases c8
        · skip
          rfl
        · skip
          cases c3
          · skip
            cases c5
            · skip
              cases c0
              · skip
                rfl
              · skip
                rfl
            · skip
              rfl
          · skip
            rfl
    · skip
      cases c6
      · skip
        rfl
      · skip
        cases c1
        · skip
          cases c7
          · skip
            rfl
          · skip
            cases c8
            · skip
              rfl
            · skip
              cases c3
              · skip
                cases c5
                · skip
                  cases c0
                  · skip
                    rfl
                  · skip
                    rfl
                · skip
                  rfl
              · skip
                rfl
        · skip
          rfl
  · skip
    rfl
-- spec vev9_1 a m bs e ;; (AV.bool (vev9_0 a m bs e), [])
end Go.Proofs.Gv
