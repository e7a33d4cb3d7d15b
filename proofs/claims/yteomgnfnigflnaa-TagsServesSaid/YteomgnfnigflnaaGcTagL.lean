import Derived.Test.YteomgnfnigflnaaGcTag
namespace Go.Proofs.Gv
open Go.Proofs
set_option linter.unusedVariables false
noncomputable def vev3_0 (w : Int) (s : Int) (f : Int) (k : Int) (v : Int) (c : Int) : Bool := bif vev7_0 v w s f k c == vev8_0 v w s f k c then bif bif true then w == w && (vev7_1 v w s f k c == vev8_1 v w s f k c && (vev7_2 v w s f k c == vev8_2 v w s f k c && (vev7_3 v w s f k c == vev8_3 v w s f k c && true))) else false then bif bif true then vev7_4 v w s f k c == vev8_4 v w s f k c else false then bif bif true then w == w && (vev13_0 v w s f k == vev14_0 v w s f k && (f == f && (k == k && true))) else false then bif bif true then vev9_0 c w == vev10_0 c w else false then bif bif true then vev9_1 c w == vev10_1 c w else false then bif bif true then vev11_0 v == vev12_0 v && ((0 : Int) == (0 : Int) && ((0 : Int) == (0 : Int) && ((0 : Int) == (0 : Int) && true))) else false then bif bif true then vev11_1 v == vev12_1 v else false then bif bif true then vev15_0 w s f k == vev16_0 w s f k else false then bif true then bif bif bif bif bif bif true then vev15_0 (vev11_0 (2 : Int)) (vev13_0 (5000000 : Int) (vev11_0 (2 : Int)) (vev7_1 (0 : Int) (vev11_0 (2 : Int)) (0 : Int) (0 : Int) (0 : Int) (6 : Int)) (vev7_2 (0 : Int) (vev11_0 (2 : Int)) (0 : Int) (0 : Int) (0 : Int) (6 : Int)) (vev7_3 (0 : Int) (vev11_0 (2 : Int)) (0 : Int) (0 : Int) (0 : Int) (6 : Int))) (vev7_2 (0 : Int) (vev11_0 (2 : Int)) (0 : Int) (0 : Int) (0 : Int) (6 : Int)) (vev7_3 (0 : Int) (vev11_0 (2 : Int)) (0 : Int) (0 : Int) (0 : Int) (6 : Int)) == (0 : Int) else false then true else false then true else false then true else false then true else false then true else false else false else false else false else false else false else false else false else false else false else false
noncomputable def vev3_1 (w : Int) (s : Int) (f : Int) (k : Int) (v : Int) (c : Int) : Bool := bif vev7_5 v w s f k c then bif vev8_5 v w s f k c then bif vev9_2 c w then bif vev10_2 c w then true else false else false else false else false
theorem ev3 (w : Int) (s : Int) (f : Int) (k : Int) (v : Int) (c : Int) : evFun (cfg Try.prog tab 100000 (gk k17 30) noLsp 3 ([] : List Blk).length Try.f3.ntmps) Try.f3 [.agg [.int .i64 w, .int .i64 s, .int .i64 f, .int .i64 k], .int .i64 v, .int .i64 c] [] = bif vev3_1 w s f k v c then some (AV.bool (vev3_0 w s f k v c), []) else none := by
  have h : evFun (cfg Try.prog tab 100000 (gk k17 30) noLsp 3 ([] : List Blk).length Try.f3.ntmps) Try.f3 [.agg [.int .i64 w, .int .i64 s, .int .i64 f, .int .i64 k], .int .i64 v, .int .i64 c] [] = bif vev7_5 v w s f k c then bif vev8_5 v w s f k c then bif vev9_2 c w then bif vev10_2 c w then bif bif vev7_0 v w s f k c == vev8_0 v w s f k c then bif bif true then w == w && (vev7_1 v w s f k c == vev8_1 v w s f k c && (vev7_2 v w s f k c == vev8_2 v w s f k c && (vev7_3 v w s f k c == vev8_3 v w s f k c && true))) else false then bif bif true then vev7_4 v w s f k c == vev8_4 v w s f k c else false then bif bif true then w == w && (vev13_0 v w s f k == vev14_0 v w s f k && (f == f && (k == k && true))) else false then bif bif true then vev9_0 c w == vev10_0 c w else false then bif bif true then vev9_1 c w == vev10_1 c w else false then bif bif true then vev11_0 v == vev12_0 v && ((0 : Int) == (0 : Int) && ((0 : Int) == (0 : Int) && ((0 : Int) == (0 : Int) && true))) else false then bif bif true then vev11_1 v == vev12_1 v else false then bif bif true then vev15_0 w s f k == vev16_0 w s f k else false then true else true else true else true else true else true else true else true else true else true then some (AV.bool (bif vev7_0 v w s f k c == vev8_0 v w s f k c then bif bif true then w == w && (vev7_1 v w s f k c == vev8_1 v w s f k c && (vev7_2 v w s f k c == vev8_2 v w s f k c && (vev7_3 v w s f k c == vev8_3 v w s f k c && true))) else false then bif bif true then vev7_4 v w s f k c == vev8_4 v w s f k c else false then bif bif true then w == w && (vev13_0 v w s f k == vev14_0 v w s f k && (f == f && (k == k && true))) else false then bif bif true then vev9_0 c w == vev10_0 c w else false then bif bif true then vev9_1 c w == vev10_1 c w else false then bif bif true then vev11_0 v == vev12_0 v && ((0 : Int) == (0 : Int) && ((0 : Int) == (0 : Int) && ((0 : Int) == (0 : Int) && true))) else false then bif bif true then vev11_1 v == vev12_1 v else false then bif bif true then vev15_0 w s f k == vev16_0 w s f k else false then bif true then bif bif bif bif bif bif true then vev15_0 (vev11_0 (2 : Int)) (vev13_0 (5000000 : Int) (vev11_0 (2 : Int)) (vev7_1 (0 : Int) (vev11_0 (2 : Int)) (0 : Int) (0 : Int) (0 : Int) (6 : Int)) (vev7_2 (0 : Int) (vev11_0 (2 : Int)) (0 : Int) (0 : Int) (0 : Int) (6 : Int)) (vev7_3 (0 : Int) (vev11_0 (2 : Int)) (0 : Int) (0 : Int) (0 : Int) (6 : Int))) (vev7_2 (0 : Int) (vev11_0 (2 : Int)) (0 : Int) (0 : Int) (0 : Int) (6 : Int)) (vev7_3 (0 : Int) (vev11_0 (2 : Int)) (0 : Int) (0 : Int) (0 : Int) (6 : Int)) == (0 : Int) else false then true else false then true else false then true else false then true else false then true else false else false else false else false else false else false else false else false else false else false else false), []) else none else none else none else none else none := by kernel_rfl
  rw [h]
  clear h
  unfold vev3_0 vev3_1
  generalize (w == w && (vev7_1 v w s f k c == vev8_1 v w s f k c && (vev7_2 v w s f k c == vev8_2 v w s f k c && (vev7_3 v w s f k c == vev8_3 v w s f k c && true)))) = c0
  generalize (vev11_0 v == vev12_0 v && ((0 : Int) == (0 : Int) && ((0 : Int) == (0 : Int) && ((0 : Int) == (0 : Int) && true)))) = c1
  generalize (w == w && (vev13_0 v w s f k == vev14_0 v w s f k && (f == f && (k == k && true)))) = c2
  generalize (vev7_4 v w s f k c == vev8_4 v w s f k c) = c3
  generalize (vev7_0 v w s f k c == vev8_0 v w s f k c) = c4
  generalize (vev15_0 w s f k == vev16_0 w s f k) = c5
  generalize (vev9_0 c w == vev10_0 c w) = c6
  generalize (vev9_1 c w == vev10_1 c w) = c7
  generalize (vev11_1 v == vev12_1 v) = c8
  generalize (vev7_5 v w s f k c) = c9
  generalize (vev8_5 v w s f k c) = c10
  generalize (vev9_2 c w) = c11
  generalize (vev10_2 c w) = c12
  cases c9
  · skip
    rfl
  · skip
    cases c10
    · skip
      rfl
    · skip
      cases c11
      · skip
        rfl
      · skip
        cases c12
        · skip
          rfl
        · skip
          cases c4
          · skip
            rfl
          · skip
            cases c0
            · skip
              rfl
            · skip
              cases c3
              · skip
                rfl
              · skip
                cases c2
                · skip
                  rfl
                · skip
                  cases c6
                  · skip
                    rfl
                  · skip
                    cases c7
                    · skip
                      rfl
                    · skip
                      cases c1
                      · skip
                        rfl
                      · skip
                        cases c8
                        · skip
                          rfl
                        · skip
                          cases c5
                          · skip
                            rfl
                          · skip
                            rfl
-- spec vev3_1 w s f k v c ;; (AV.bool (vev3_0 w s f k v c), [])
end Go.Proofs.Gv
