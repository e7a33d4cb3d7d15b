import Derived.Test.YthnbpgiohimkoaaGaFa
import Derived.Test.YthnbpgiohimkoaaGwM
namespace Go.Proofs.Gv
open Go.Proofs
set_option linter.unusedVariables false
abbrev kqb0 : List Kd := [(.int .i64), (.int .i64), (.int .i64), (.int .i64), (.int .i64), (.int .i64), (.sl [(.int .i64), (.int .i64), (.int .i64), (.int .i64)])]
abbrev kqb1 : List Kd := [(.int .i64)]
abbrev kqb2 : List Kd := [(.int .i64), (.int .i64)]
abbrev kqb3 : List Kd := [(.int .i64), (.int .i64), (.int .i64), (.int .i64)]
noncomputable def mTb1 : List AV := [(.int .i64 2), (.int .i64 3)]
noncomputable def mCb1 : List Blk := []
noncomputable def mRb1 : AV := (.tup [(.hp 0 0), (.int .i64 0)])
noncomputable def mOb1 : List Blk := [(.var [(.int .i64 2), (.int .i64 3), .nil, (.mp 1 kqb0), .nil, (.int .i64 0), (.int .i64 0)]), (.tbl kqb0 [] none)]
theorem mb1 : gk k118c 30 11 mTb1 mCb1 = some (true, mRb1, mOb1) := by kernel_rfl
noncomputable def kb1 : Gam := memoG 11 mTb1 mCb1 mRb1 mOb1 k118c
theorem kb1_ok : GamOK Try.prog kb1 := memoG_ok k118c_ok (gk_ok k118c_ok 30) mb1
noncomputable def mTb2 : List AV := [(.hp 0 0), (.int .i64 0), (.int .i64 1)]
noncomputable def mCb2 : List Blk := [(.var [(.int .i64 2), (.int .i64 3), (.rf 1 kqb1), (.mp 2 kqb0), (.sl .imm kqb2 []), (.int .i64 0), (.int .i64 0)]), (.row kqb1 []), (.tbl kqb0 [] none)]
noncomputable def mRb2 : AV := (.int .i64 0)
noncomputable def mOb2 : List Blk := [(.var [(.int .i64 2), (.int .i64 3), (.rf 3 kqb1), (.mp 4 kqb0), (.sl .imm kqb2 []), (.int .i64 0), (.int .i64 0)]), .dead, .dead, (.row kqb1 [[(.int .i64 0)]]), (.tbl kqb0 [[(.int .i64 0), (.int .i64 0), (.int .i64 1), (.int .i64 0), (.int .i64 0), (.int .i64 0), (.int .i64 3), (.sl .imm kqb3 [])]] none)]
theorem mb2 : gk kb1 30 13 mTb2 mCb2 = some (true, mRb2, mOb2) := by kernel_rfl
noncomputable def kb2 : Gam := memoG 13 mTb2 mCb2 mRb2 mOb2 kb1
theorem kb2_ok : GamOK Try.prog kb2 := memoG_ok kb1_ok (gk_ok kb1_ok 30) mb2
noncomputable def mTb3 : List AV := [(.hp 0 0), (.int .i64 1), (.int .i64 2)]
noncomputable def mCb3 : List Blk := [(.var [(.int .i64 2), (.int .i64 3), (.rf 1 kqb1), (.mp 2 kqb0), (.sl .imm kqb2 []), (.int .i64 0), (.int .i64 0)]), (.row kqb1 [[(.int .i64 0)]]), (.tbl kqb0 [[(.int .i64 0), (.int .i64 0), (.int .i64 1), (.int .i64 0), (.int .i64 0), (.int .i64 0), (.int .i64 3), (.sl .imm kqb3 [])]] none)]
noncomputable def mRb3 : AV := (.int .i64 0)
noncomputable def mOb3 : List Blk := [(.var [(.int .i64 2), (.int .i64 3), (.rf 3 kqb1), (.mp 4 kqb0), (.sl .imm kqb2 []), (.int .i64 0), (.int .i64 0)]), .dead, .dead, (.row kqb1 [[(.int .i64 0)], [(.int .i64 1)]]), (.tbl kqb0 [[(.int .i64 0), (.int .i64 0), (.int .i64 1), (.int .i64 0), (.int .i64 0), (.int .i64 0), (.int .i64 3), (.sl .imm kqb3 [])], [(.int .i64 1), (.int .i64 1), (.int .i64 2), (.int .i64 0), (.int .i64 0), (.int .i64 0), (.int .i64 3), (.sl .imm kqb3 [])]] none)]
theorem mb3 : gk kb2 30 13 mTb3 mCb3 = some (true, mRb3, mOb3) := by kernel_rfl
noncomputable def kb3 : Gam := memoG 13 mTb3 mCb3 mRb3 mOb3 kb2
theorem kb3_ok : GamOK Try.prog kb3 := memoG_ok kb2_ok (gk_ok kb2_ok 30) mb3
noncomputable def mTb4 : List AV := [(.hp 0 0), (.int .i64 0), (.int .i64 1), (.int .i64 3), (.int .i64 6)]
noncomputable def mCb4 : List Blk := [(.var [(.int .i64 2), (.int .i64 3), (.rf 1 kqb1), (.mp 2 kqb0), (.sl .imm kqb2 []), (.int .i64 0), (.int .i64 0)]), (.row kqb1 [[(.int .i64 0)], [(.int .i64 1)]]), (.tbl kqb0 [[(.int .i64 0), (.int .i64 0), (.int .i64 1), (.int .i64 0), (.int .i64 0), (.int .i64 0), (.int .i64 3), (.sl .imm kqb3 [])], [(.int .i64 1), (.int .i64 1), (.int .i64 2), (.int .i64 0), (.int .i64 0), (.int .i64 0), (.int .i64 3), (.sl .imm kqb3 [])]] none)]
noncomputable def mRb4 : AV := (.int .i64 0)
noncomputable def mOb4 : List Blk := [(.var [(.int .i64 2), (.int .i64 3), (.rf 1 kqb1), (.mp 2 kqb0), (.sl .imm kqb2 [[(.int .i64 0), (.int .i64 0)]]), (.int .i64 0), (.int .i64 0)]), (.row kqb1 [[(.int .i64 0)], [(.int .i64 1)]]), (.tbl kqb0 [[(.int .i64 0), (.int .i64 0), (.int .i64 1), (.int .i64 0), (.int .i64 0), (.int .i64 0), (.int .i64 3), (.sl .imm kqb3 [[(.int .i64 1), (.int .i64 3), (.int .i64 6), (.int .i64 0)]])], [(.int .i64 1), (.int .i64 1), (.int .i64 2), (.int .i64 0), (.int .i64 0), (.int .i64 0), (.int .i64 3), (.sl .imm kqb3 [])]] none)]
theorem mb4 : gk kb3 30 15 mTb4 mCb4 = some (true, mRb4, mOb4) := by kernel_rfl
noncomputable def kb4 : Gam := memoG 15 mTb4 mCb4 mRb4 mOb4 kb3
theorem kb4_ok : GamOK Try.prog kb4 := memoG_ok kb3_ok (gk_ok kb3_ok 30) mb4
noncomputable def mTb5 : List AV := [(.hp 0 0), (.int .i64 1), (.int .i64 1), (.int .i64 3), (.int .i64 6)]
noncomputable def mCb5 : List Blk := [(.var [(.int .i64 2), (.int .i64 3), (.rf 1 kqb1), (.mp 2 kqb0), (.sl .imm kqb2 [[(.int .i64 0), (.int .i64 0)]]), (.int .i64 0), (.int .i64 0)]), (.row kqb1 [[(.int .i64 0)], [(.int .i64 1)]]), (.tbl kqb0 [[(.int .i64 0), (.int .i64 0), (.int .i64 1), (.int .i64 0), (.int .i64 0), (.int .i64 0), (.int .i64 3), (.sl .imm kqb3 [[(.int .i64 1), (.int .i64 3), (.int .i64 6), (.int .i64 0)]])], [(.int .i64 1), (.int .i64 1), (.int .i64 2), (.int .i64 0), (.int .i64 0), (.int .i64 0), (.int .i64 3), (.sl .imm kqb3 [])]] none)]
noncomputable def mRb5 : AV := (.int .i64 0)
noncomputable def mOb5 : List Blk := [(.var [(.int .i64 2), (.int .i64 3), (.rf 1 kqb1), (.mp 2 kqb0), (.sl .imm kqb2 [[(.int .i64 0), (.int .i64 0)], [(.int .i64 0), (.int .i64 1)]]), (.int .i64 0), (.int .i64 0)]), (.row kqb1 [[(.int .i64 0)], [(.int .i64 1)]]), (.tbl kqb0 [[(.int .i64 0), (.int .i64 0), (.int .i64 1), (.int .i64 0), (.int .i64 0), (.int .i64 0), (.int .i64 3), (.sl .imm kqb3 [[(.int .i64 1), (.int .i64 3), (.int .i64 6), (.int .i64 0)]])], [(.int .i64 1), (.int .i64 1), (.int .i64 2), (.int .i64 0), (.int .i64 0), (.int .i64 0), (.int .i64 3), (.sl .imm kqb3 [[(.int .i64 1), (.int .i64 3), (.int .i64 6), (.int .i64 0)]])]] none)]
theorem mb5 : gk kb4 30 15 mTb5 mCb5 = some (true, mRb5, mOb5) := by kernel_rfl
noncomputable def kb5 : Gam := memoG 15 mTb5 mCb5 mRb5 mOb5 kb4
theorem kb5_ok : GamOK Try.prog kb5 := memoG_ok kb4_ok (gk_ok kb4_ok 30) mb5
noncomputable def mTb6 : List AV := [(.hp 0 0), (.int .i64 1), (.int .i64 2)]
noncomputable def mCb6 : List Blk := [(.var [(.int .i64 2), (.int .i64 3), (.rf 1 kqb1), (.mp 2 kqb0), (.sl .imm kqb2 [[(.int .i64 0), (.int .i64 0)], [(.int .i64 0), (.int .i64 1)]]), (.int .i64 0), (.int .i64 0)]), (.row kqb1 [[(.int .i64 0)], [(.int .i64 1)]]), (.tbl kqb0 [[(.int .i64 0), (.int .i64 0), (.int .i64 1), (.int .i64 0), (.int .i64 0), (.int .i64 0), (.int .i64 3), (.sl .imm kqb3 [[(.int .i64 1), (.int .i64 3), (.int .i64 6), (.int .i64 0)]])], [(.int .i64 1), (.int .i64 1), (.int .i64 2), (.int .i64 0), (.int .i64 0), (.int .i64 0), (.int .i64 3), (.sl .imm kqb3 [[(.int .i64 1), (.int .i64 3), (.int .i64 6), (.int .i64 0)]])]] none)]
noncomputable def mRb6 : AV := (.int .i64 12)
noncomputable def mOb6 : List Blk := [(.var [(.int .i64 2), (.int .i64 3), (.rf 3 kqb1), (.mp 4 kqb0), (.sl .imm kqb2 [[(.int .i64 0), (.int .i64 0)], [(.int .i64 0), (.int .i64 1)]]), (.int .i64 0), (.int .i64 0)]), .dead, .dead, (.row kqb1 [[(.int .i64 0)], [(.int .i64 1)]]), (.tbl kqb0 [[(.int .i64 0), (.int .i64 0), (.int .i64 1), (.int .i64 0), (.int .i64 0), (.int .i64 0), (.int .i64 3), (.sl .imm kqb3 [[(.int .i64 1), (.int .i64 3), (.int .i64 6), (.int .i64 0)]])], [(.int .i64 1), (.int .i64 1), (.int .i64 2), (.int .i64 0), (.int .i64 0), (.int .i64 0), (.int .i64 3), (.sl .imm kqb3 [[(.int .i64 1), (.int .i64 3), (.int .i64 6), (.int .i64 0)]])]] none)]
theorem mb6 : gk kb5 30 13 mTb6 mCb6 = some (true, mRb6, mOb6) := by kernel_rfl
noncomputable def kb6 : Gam := memoG 13 mTb6 mCb6 mRb6 mOb6 kb5
theorem kb6_ok : GamOK Try.prog kb6 := memoG_ok kb5_ok (gk_ok kb5_ok 30) mb6
noncomputable def mTb7 : List AV := [(.hp 0 0), (.int .i64 0), (.int .i64 9)]
noncomputable def mCb7 : List Blk := [(.var [(.int .i64 2), (.int .i64 3), (.rf 1 kqb1), (.mp 2 kqb0), (.sl .imm kqb2 [[(.int .i64 0), (.int .i64 0)], [(.int .i64 0), (.int .i64 1)]]), (.int .i64 0), (.int .i64 0)]), (.row kqb1 [[(.int .i64 0)], [(.int .i64 1)]]), (.tbl kqb0 [[(.int .i64 0), (.int .i64 0), (.int .i64 1), (.int .i64 0), (.int .i64 0), (.int .i64 0), (.int .i64 3), (.sl .imm kqb3 [[(.int .i64 1), (.int .i64 3), (.int .i64 6), (.int .i64 0)]])], [(.int .i64 1), (.int .i64 1), (.int .i64 2), (.int .i64 0), (.int .i64 0), (.int .i64 0), (.int .i64 3), (.sl .imm kqb3 [[(.int .i64 1), (.int .i64 3), (.int .i64 6), (.int .i64 0)]])]] none)]
noncomputable def mRb7 : AV := (.int .i64 6)
noncomputable def mOb7 : List Blk := [(.var [(.int .i64 2), (.int .i64 3), (.rf 1 kqb1), (.mp 2 kqb0), (.sl .imm kqb2 [[(.int .i64 0), (.int .i64 0)], [(.int .i64 0), (.int .i64 1)]]), (.int .i64 0), (.int .i64 0)]), (.row kqb1 [[(.int .i64 0)], [(.int .i64 1)]]), (.tbl kqb0 [[(.int .i64 0), (.int .i64 0), (.int .i64 1), (.int .i64 0), (.int .i64 0), (.int .i64 0), (.int .i64 3), (.sl .imm kqb3 [[(.int .i64 1), (.int .i64 3), (.int .i64 6), (.int .i64 0)]])], [(.int .i64 1), (.int .i64 1), (.int .i64 2), (.int .i64 0), (.int .i64 0), (.int .i64 0), (.int .i64 3), (.sl .imm kqb3 [[(.int .i64 1), (.int .i64 3), (.int .i64 6), (.int .i64 0)]])]] none)]
theorem mb7 : gk kb6 30 29 mTb7 mCb7 = some (true, mRb7, mOb7) := by kernel_rfl
noncomputable def kb7 : Gam := memoG 29 mTb7 mCb7 mRb7 mOb7 kb6
theorem kb7_ok : GamOK Try.prog kb7 := memoG_ok kb6_ok (gk_ok kb6_ok 30) mb7
noncomputable def mTb8 : List AV := [(.hp 0 0)]
noncomputable def mCb8 : List Blk := [(.var [(.int .i64 2), (.int .i64 3), (.rf 1 kqb1), (.mp 2 kqb0), (.sl .imm kqb2 [[(.int .i64 0), (.int .i64 0)], [(.int .i64 0), (.int .i64 1)]]), (.int .i64 0), (.int .i64 0)]), (.row kqb1 [[(.int .i64 0)], [(.int .i64 1)]]), (.tbl kqb0 [[(.int .i64 0), (.int .i64 0), (.int .i64 1), (.int .i64 0), (.int .i64 0), (.int .i64 0), (.int .i64 3), (.sl .imm kqb3 [[(.int .i64 1), (.int .i64 3), (.int .i64 6), (.int .i64 0)]])], [(.int .i64 1), (.int .i64 1), (.int .i64 2), (.int .i64 0), (.int .i64 0), (.int .i64 0), (.int .i64 3), (.sl .imm kqb3 [[(.int .i64 1), (.int .i64 3), (.int .i64 6), (.int .i64 0)]])]] none)]
noncomputable def mRb8 : AV := (.int .i64 12)
noncomputable def mOb8 : List Blk := [(.row [] [])]
theorem mb8 : gk kb7 30 34 mTb8 mCb8 = some (true, mRb8, mOb8) := by kernel_rfl
noncomputable def kb8 : Gam := memoG 34 mTb8 mCb8 mRb8 mOb8 kb7
theorem kb8_ok : GamOK Try.prog kb8 := memoG_ok kb7_ok (gk_ok kb7_ok 30) mb8
noncomputable def mTb9 : List AV := [(.hp 0 0)]
noncomputable def mCb9 : List Blk := [(.var [(.int .i64 2), (.int .i64 3), (.rf 1 kqb1), (.mp 2 kqb0), (.sl .imm kqb2 [[(.int .i64 0), (.int .i64 0)], [(.int .i64 0), (.int .i64 1)]]), (.int .i64 0), (.int .i64 0)]), (.row kqb1 [[(.int .i64 0)], [(.int .i64 1)]]), (.tbl kqb0 [[(.int .i64 0), (.int .i64 0), (.int .i64 1), (.int .i64 0), (.int .i64 0), (.int .i64 0), (.int .i64 3), (.sl .imm kqb3 [[(.int .i64 1), (.int .i64 3), (.int .i64 6), (.int .i64 0)]])], [(.int .i64 1), (.int .i64 1), (.int .i64 2), (.int .i64 0), (.int .i64 0), (.int .i64 0), (.int .i64 3), (.sl .imm kqb3 [[(.int .i64 1), (.int .i64 3), (.int .i64 6), (.int .i64 0)]])]] none)]
noncomputable def mRb9 : AV := (.tup [(.agg [(.int .i64 0), (.int .i64 1), (.int .i64 2), (.int .i64 4)]), (.bool .true)])
noncomputable def mOb9 : List Blk := [(.var [(.int .i64 2), (.int .i64 3), (.rf 1 kqb1), (.mp 2 kqb0), (.sl .imm kqb2 [[(.int .i64 0), (.int .i64 1)], [(.int .i64 1441440), (.int .i64 0)]]), (.int .i64 0), (.int .i64 2)]), (.row kqb1 [[(.int .i64 0)], [(.int .i64 1)]]), (.tbl kqb0 [[(.int .i64 0), (.int .i64 0), (.int .i64 1), (.int .i64 1441440), (.int .i64 1441440), (.int .i64 2), (.int .i64 3), (.sl .imm kqb3 [[(.int .i64 1), (.int .i64 3), (.int .i64 4), (.int .i64 0)]])], [(.int .i64 1), (.int .i64 1), (.int .i64 2), (.int .i64 0), (.int .i64 0), (.int .i64 0), (.int .i64 3), (.sl .imm kqb3 [[(.int .i64 1), (.int .i64 3), (.int .i64 6), (.int .i64 0)]])]] none)]
theorem mb9 : gk kb8 30 31 mTb9 mCb9 = some (true, mRb9, mOb9) := by kernel_rfl
noncomputable def kb9 : Gam := memoG 31 mTb9 mCb9 mRb9 mOb9 kb8
theorem kb9_ok : GamOK Try.prog kb9 := memoG_ok kb8_ok (gk_ok kb8_ok 30) mb9
noncomputable def mTb10 : List AV := [(.hp 0 0)]
noncomputable def mCb10 : List Blk := [(.var [(.int .i64 2), (.int .i64 3), (.rf 1 kqb1), (.mp 2 kqb0), (.sl .imm kqb2 [[(.int .i64 0), (.int .i64 1)], [(.int .i64 1441440), (.int .i64 0)]]), (.int .i64 0), (.int .i64 2)]), (.row kqb1 [[(.int .i64 0)], [(.int .i64 1)]]), (.tbl kqb0 [[(.int .i64 0), (.int .i64 0), (.int .i64 1), (.int .i64 1441440), (.int .i64 1441440), (.int .i64 2), (.int .i64 3), (.sl .imm kqb3 [[(.int .i64 1), (.int .i64 3), (.int .i64 4), (.int .i64 0)]])], [(.int .i64 1), (.int .i64 1), (.int .i64 2), (.int .i64 0), (.int .i64 0), (.int .i64 0), (.int .i64 3), (.sl .imm kqb3 [[(.int .i64 1), (.int .i64 3), (.int .i64 6), (.int .i64 0)]])]] none)]
noncomputable def mRb10 : AV := (.tup [(.agg [(.int .i64 1), (.int .i64 1), (.int .i64 2), (.int .i64 4)]), (.bool .true)])
noncomputable def mOb10 : List Blk := [(.var [(.int .i64 2), (.int .i64 3), (.rf 1 kqb1), (.mp 2 kqb0), (.sl .imm kqb2 [[(.int .i64 720720), (.int .i64 1)], [(.int .i64 1441440), (.int .i64 0)]]), (.int .i64 0), (.int .i64 4)]), (.row kqb1 [[(.int .i64 0)], [(.int .i64 1)]]), (.tbl kqb0 [[(.int .i64 0), (.int .i64 0), (.int .i64 1), (.int .i64 1441440), (.int .i64 1441440), (.int .i64 2), (.int .i64 3), (.sl .imm kqb3 [[(.int .i64 1), (.int .i64 3), (.int .i64 4), (.int .i64 0)]])], [(.int .i64 1), (.int .i64 1), (.int .i64 2), (.int .i64 720720), (.int .i64 720720), (.int .i64 2), (.int .i64 3), (.sl .imm kqb3 [[(.int .i64 1), (.int .i64 3), (.int .i64 4), (.int .i64 0)]])]] none)]
theorem mb10 : gk kb9 30 31 mTb10 mCb10 = some (true, mRb10, mOb10) := by kernel_rfl
noncomputable def kb10 : Gam := memoG 31 mTb10 mCb10 mRb10 mOb10 kb9
theorem kb10_ok : GamOK Try.prog kb10 := memoG_ok kb9_ok (gk_ok kb9_ok 30) mb10
noncomputable def mTb11 : List AV := [(.hp 0 0)]
noncomputable def mCb11 : List Blk := [(.var [(.int .i64 2), (.int .i64 3), (.rf 1 kqb1), (.mp 2 kqb0), (.sl .imm kqb2 [[(.int .i64 720720), (.int .i64 1)], [(.int .i64 1441440), (.int .i64 0)]]), (.int .i64 0), (.int .i64 4)]), (.row kqb1 [[(.int .i64 0)], [(.int .i64 1)]]), (.tbl kqb0 [[(.int .i64 0), (.int .i64 0), (.int .i64 1), (.int .i64 1441440), (.int .i64 1441440), (.int .i64 2), (.int .i64 3), (.sl .imm kqb3 [[(.int .i64 1), (.int .i64 3), (.int .i64 4), (.int .i64 0)]])], [(.int .i64 1), (.int .i64 1), (.int .i64 2), (.int .i64 720720), (.int .i64 720720), (.int .i64 2), (.int .i64 3), (.sl .imm kqb3 [[(.int .i64 1), (.int .i64 3), (.int .i64 4), (.int .i64 0)]])]] none)]
noncomputable def mRb11 : AV := (.tup [(.agg [(.int .i64 1), (.int .i64 1), (.int .i64 2), (.int .i64 2)]), (.bool .true)])
noncomputable def mOb11 : List Blk := [(.var [(.int .i64 2), (.int .i64 3), (.rf 1 kqb1), (.mp 2 kqb0), (.sl .imm kqb2 [[(.int .i64 1441440), (.int .i64 0)], [(.int .i64 1441440), (.int .i64 1)]]), (.int .i64 720720), (.int .i64 6)]), (.row kqb1 [[(.int .i64 0)], [(.int .i64 1)]]), (.tbl kqb0 [[(.int .i64 0), (.int .i64 0), (.int .i64 1), (.int .i64 1441440), (.int .i64 1441440), (.int .i64 2), (.int .i64 3), (.sl .imm kqb3 [[(.int .i64 1), (.int .i64 3), (.int .i64 4), (.int .i64 0)]])], [(.int .i64 1), (.int .i64 1), (.int .i64 2), (.int .i64 1441440), (.int .i64 1441440), (.int .i64 4), (.int .i64 3), (.sl .imm kqb3 [[(.int .i64 1), (.int .i64 3), (.int .i64 2), (.int .i64 0)]])]] none)]
theorem mb11 : gk kb10 30 31 mTb11 mCb11 = some (true, mRb11, mOb11) := by kernel_rfl
noncomputable def kb11 : Gam := memoG 31 mTb11 mCb11 mRb11 mOb11 kb10
theorem kb11_ok : GamOK Try.prog kb11 := memoG_ok kb10_ok (gk_ok kb10_ok 30) mb11
noncomputable def mTb12 : List AV := [(.hp 0 0)]
noncomputable def mCb12 : List Blk := [(.var [(.int .i64 2), (.int .i64 3), (.rf 1 kqb1), (.mp 2 kqb0), (.sl .imm kqb2 [[(.int .i64 1441440), (.int .i64 0)], [(.int .i64 1441440), (.int .i64 1)]]), (.int .i64 720720), (.int .i64 6)]), (.row kqb1 [[(.int .i64 0)], [(.int .i64 1)]]), (.tbl kqb0 [[(.int .i64 0), (.int .i64 0), (.int .i64 1), (.int .i64 1441440), (.int .i64 1441440), (.int .i64 2), (.int .i64 3), (.sl .imm kqb3 [[(.int .i64 1), (.int .i64 3), (.int .i64 4), (.int .i64 0)]])], [(.int .i64 1), (.int .i64 1), (.int .i64 2), (.int .i64 1441440), (.int .i64 1441440), (.int .i64 4), (.int .i64 3), (.sl .imm kqb3 [[(.int .i64 1), (.int .i64 3), (.int .i64 2), (.int .i64 0)]])]] none)]
noncomputable def mRb12 : AV := (.tup [(.agg [(.int .i64 0), (.int .i64 1), (.int .i64 2), (.int .i64 2)]), (.bool .true)])
noncomputable def mOb12 : List Blk := [(.var [(.int .i64 2), (.int .i64 3), (.rf 1 kqb1), (.mp 2 kqb0), (.sl .imm kqb2 [[(.int .i64 1441440), (.int .i64 1)], [(.int .i64 2882880), (.int .i64 0)]]), (.int .i64 1441440), (.int .i64 8)]), (.row kqb1 [[(.int .i64 0)], [(.int .i64 1)]]), (.tbl kqb0 [[(.int .i64 0), (.int .i64 0), (.int .i64 1), (.int .i64 2882880), (.int .i64 2882880), (.int .i64 4), (.int .i64 3), (.sl .imm kqb3 [[(.int .i64 1), (.int .i64 3), (.int .i64 2), (.int .i64 0)]])], [(.int .i64 1), (.int .i64 1), (.int .i64 2), (.int .i64 1441440), (.int .i64 1441440), (.int .i64 4), (.int .i64 3), (.sl .imm kqb3 [[(.int .i64 1), (.int .i64 3), (.int .i64 2), (.int .i64 0)]])]] none)]
theorem mb12 : gk kb11 30 31 mTb12 mCb12 = some (true, mRb12, mOb12) := by kernel_rfl
noncomputable def kb12 : Gam := memoG 31 mTb12 mCb12 mRb12 mOb12 kb11
theorem kb12_ok : GamOK Try.prog kb12 := memoG_ok kb11_ok (gk_ok kb11_ok 30) mb12
noncomputable def mTb13 : List AV := [(.hp 0 0)]
noncomputable def mCb13 : List Blk := [(.var [(.int .i64 2), (.int .i64 3), (.rf 1 kqb1), (.mp 2 kqb0), (.sl .imm kqb2 [[(.int .i64 1441440), (.int .i64 1)], [(.int .i64 2882880), (.int .i64 0)]]), (.int .i64 1441440), (.int .i64 8)]), (.row kqb1 [[(.int .i64 0)], [(.int .i64 1)]]), (.tbl kqb0 [[(.int .i64 0), (.int .i64 0), (.int .i64 1), (.int .i64 2882880), (.int .i64 2882880), (.int .i64 4), (.int .i64 3), (.sl .imm kqb3 [[(.int .i64 1), (.int .i64 3), (.int .i64 2), (.int .i64 0)]])], [(.int .i64 1), (.int .i64 1), (.int .i64 2), (.int .i64 1441440), (.int .i64 1441440), (.int .i64 4), (.int .i64 3), (.sl .imm kqb3 [[(.int .i64 1), (.int .i64 3), (.int .i64 2), (.int .i64 0)]])]] none)]
noncomputable def mRb13 : AV := (.tup [(.agg [(.int .i64 1), (.int .i64 1), (.int .i64 2), (.int .i64 0)]), (.bool .true)])
noncomputable def mOb13 : List Blk := [(.var [(.int .i64 2), (.int .i64 3), (.rf 1 kqb1), (.mp 2 kqb0), (.sl .imm kqb2 [[(.int .i64 2882880), (.int .i64 0)]]), (.int .i64 1441440), (.int .i64 10)]), (.row kqb1 [[(.int .i64 0)], [(.int .i64 1)]]), (.tbl kqb0 [[(.int .i64 0), (.int .i64 0), (.int .i64 1), (.int .i64 2882880), (.int .i64 2882880), (.int .i64 4), (.int .i64 3), (.sl .imm kqb3 [[(.int .i64 1), (.int .i64 3), (.int .i64 2), (.int .i64 0)]])], [(.int .i64 1), (.int .i64 1), (.int .i64 2), (.int .i64 2162160), (.int .i64 2162160), (.int .i64 6), (.int .i64 3), (.sl .imm kqb3 [])]] none)]
theorem mb13 : gk kb12 30 31 mTb13 mCb13 = some (true, mRb13, mOb13) := by kernel_rfl
noncomputable def kb13 : Gam := memoG 31 mTb13 mCb13 mRb13 mOb13 kb12
theorem kb13_ok : GamOK Try.prog kb13 := memoG_ok kb12_ok (gk_ok kb12_ok 30) mb13
noncomputable def mTb14 : List AV := [(.hp 0 0)]
noncomputable def mCb14 : List Blk := [(.var [(.int .i64 2), (.int .i64 3), (.rf 1 kqb1), (.mp 2 kqb0), (.sl .imm kqb2 [[(.int .i64 2882880), (.int .i64 0)]]), (.int .i64 1441440), (.int .i64 10)]), (.row kqb1 [[(.int .i64 0)], [(.int .i64 1)]]), (.tbl kqb0 [[(.int .i64 0), (.int .i64 0), (.int .i64 1), (.int .i64 2882880), (.int .i64 2882880), (.int .i64 4), (.int .i64 3), (.sl .imm kqb3 [[(.int .i64 1), (.int .i64 3), (.int .i64 2), (.int .i64 0)]])], [(.int .i64 1), (.int .i64 1), (.int .i64 2), (.int .i64 2162160), (.int .i64 2162160), (.int .i64 6), (.int .i64 3), (.sl .imm kqb3 [])]] none)]
noncomputable def mRb14 : AV := (.tup [(.agg [(.int .i64 0), (.int .i64 1), (.int .i64 2), (.int .i64 0)]), (.bool .true)])
noncomputable def mOb14 : List Blk := [(.var [(.int .i64 2), (.int .i64 3), (.rf 1 kqb1), (.mp 2 kqb0), (.sl .imm kqb2 []), (.int .i64 2882880), (.int .i64 12)]), (.row kqb1 [[(.int .i64 0)], [(.int .i64 1)]]), (.tbl kqb0 [[(.int .i64 0), (.int .i64 0), (.int .i64 1), (.int .i64 4324320), (.int .i64 4324320), (.int .i64 6), (.int .i64 3), (.sl .imm kqb3 [])], [(.int .i64 1), (.int .i64 1), (.int .i64 2), (.int .i64 2162160), (.int .i64 2162160), (.int .i64 6), (.int .i64 3), (.sl .imm kqb3 [])]] none)]
theorem mb14 : gk kb13 30 31 mTb14 mCb14 = some (true, mRb14, mOb14) := by kernel_rfl
noncomputable def kb14 : Gam := memoG 31 mTb14 mCb14 mRb14 mOb14 kb13
theorem kb14_ok : GamOK Try.prog kb14 := memoG_ok kb13_ok (gk_ok kb13_ok 30) mb14
noncomputable def mTb15 : List AV := [(.hp 0 0)]
noncomputable def mCb15 : List Blk := [(.var [(.int .i64 2), (.int .i64 3), (.rf 1 kqb1), (.mp 2 kqb0), (.sl .imm kqb2 []), (.int .i64 2882880), (.int .i64 12)]), (.row kqb1 [[(.int .i64 0)], [(.int .i64 1)]]), (.tbl kqb0 [[(.int .i64 0), (.int .i64 0), (.int .i64 1), (.int .i64 4324320), (.int .i64 4324320), (.int .i64 6), (.int .i64 3), (.sl .imm kqb3 [])], [(.int .i64 1), (.int .i64 1), (.int .i64 2), (.int .i64 2162160), (.int .i64 2162160), (.int .i64 6), (.int .i64 3), (.sl .imm kqb3 [])]] none)]
noncomputable def mRb15 : AV := (.tup [(.agg [(.int .i64 0), (.int .i64 0), (.int .i64 0), (.int .i64 0)]), (.bool .false)])
noncomputable def mOb15 : List Blk := [(.var [(.int .i64 2), (.int .i64 3), (.rf 1 kqb1), (.mp 2 kqb0), (.sl .imm kqb2 []), (.int .i64 2882880), (.int .i64 12)]), (.row kqb1 [[(.int .i64 0)], [(.int .i64 1)]]), (.tbl kqb0 [[(.int .i64 0), (.int .i64 0), (.int .i64 1), (.int .i64 4324320), (.int .i64 4324320), (.int .i64 6), (.int .i64 3), (.sl .imm kqb3 [])], [(.int .i64 1), (.int .i64 1), (.int .i64 2), (.int .i64 2162160), (.int .i64 2162160), (.int .i64 6), (.int .i64 3), (.sl .imm kqb3 [])]] none)]
theorem mb15 : gk kb14 30 31 mTb15 mCb15 = some (true, mRb15, mOb15) := by kernel_rfl
noncomputable def kb15 : Gam := memoG 31 mTb15 mCb15 mRb15 mOb15 kb14
theorem kb15_ok : GamOK Try.prog kb15 := memoG_ok kb14_ok (gk_ok kb14_ok 30) mb15
noncomputable def mTb16 : List AV := [(.hp 0 0)]
noncomputable def mCb16 : List Blk := [(.var [(.int .i64 2), (.int .i64 3), (.rf 1 kqb1), (.mp 2 kqb0), (.sl .imm kqb2 []), (.int .i64 2882880), (.int .i64 12)]), (.row kqb1 [[(.int .i64 0)], [(.int .i64 1)]]), (.tbl kqb0 [[(.int .i64 0), (.int .i64 0), (.int .i64 1), (.int .i64 4324320), (.int .i64 4324320), (.int .i64 6), (.int .i64 3), (.sl .imm kqb3 [])], [(.int .i64 1), (.int .i64 1), (.int .i64 2), (.int .i64 2162160), (.int .i64 2162160), (.int .i64 6), (.int .i64 3), (.sl .imm kqb3 [])]] none)]
noncomputable def mRb16 : AV := (.sl .imm kqb0 [[(.int .i64 0), (.int .i64 1), (.int .i64 4324320), (.int .i64 4324320), (.int .i64 6), (.int .i64 3), (.sl .imm kqb3 [])], [(.int .i64 1), (.int .i64 2), (.int .i64 2162160), (.int .i64 2162160), (.int .i64 6), (.int .i64 3), (.sl .imm kqb3 [])]])
noncomputable def mOb16 : List Blk := [(.row [] [])]
theorem mb16 : gk kb15 30 35 mTb16 mCb16 = some (true, mRb16, mOb16) := by kernel_rfl
noncomputable def kb16 : Gam := memoG 35 mTb16 mCb16 mRb16 mOb16 kb15
theorem kb16_ok : GamOK Try.prog kb16 := memoG_ok kb15_ok (gk_ok kb15_ok 30) mb16
noncomputable def mTb17 : List AV := [(.hp 0 0)]
noncomputable def mCb17 : List Blk := [(.var [(.int .i64 2), (.int .i64 3), (.rf 1 kqb1), (.mp 2 kqb0), (.sl .imm kqb2 []), (.int .i64 2882880), (.int .i64 12)]), (.row kqb1 [[(.int .i64 0)], [(.int .i64 1)]]), (.tbl kqb0 [[(.int .i64 0), (.int .i64 0), (.int .i64 1), (.int .i64 4324320), (.int .i64 4324320), (.int .i64 6), (.int .i64 3), (.sl .imm kqb3 [])], [(.int .i64 1), (.int .i64 1), (.int .i64 2), (.int .i64 2162160), (.int .i64 2162160), (.int .i64 6), (.int .i64 3), (.sl .imm kqb3 [])]] none)]
noncomputable def mRb17 : AV := (.int .i64 12)
noncomputable def mOb17 : List Blk := [(.row [] [])]
theorem mb17 : gk kb16 30 37 mTb17 mCb17 = some (true, mRb17, mOb17) := by kernel_rfl
noncomputable def kb17 : Gam := memoG 37 mTb17 mCb17 mRb17 mOb17 kb16
theorem kb17_ok : GamOK Try.prog kb17 := memoG_ok kb16_ok (gk_ok kb16_ok 30) mb17
noncomputable def mTb18 : List AV := [(.hp 0 0), (.int .i64 0)]
noncomputable def mCb18 : List Blk := [(.var [(.int .i64 2), (.int .i64 3), (.rf 1 kqb1), (.mp 2 kqb0), (.sl .imm kqb2 []), (.int .i64 2882880), (.int .i64 12)]), (.row kqb1 [[(.int .i64 0)], [(.int .i64 1)]]), (.tbl kqb0 [[(.int .i64 0), (.int .i64 0), (.int .i64 1), (.int .i64 4324320), (.int .i64 4324320), (.int .i64 6), (.int .i64 3), (.sl .imm kqb3 [])], [(.int .i64 1), (.int .i64 1), (.int .i64 2), (.int .i64 2162160), (.int .i64 2162160), (.int .i64 6), (.int .i64 3), (.sl .imm kqb3 [])]] none)]
noncomputable def mRb18 : AV := (.int .i64 0)
noncomputable def mOb18 : List Blk := [(.var [(.int .i64 2), (.int .i64 3), (.rf 3 kqb1), (.mp 2 kqb0), (.sl .imm kqb2 []), (.int .i64 2882880), (.int .i64 12)]), .dead, (.tbl kqb0 [[(.int .i64 1), (.int .i64 1), (.int .i64 2), (.int .i64 2162160), (.int .i64 2162160), (.int .i64 6), (.int .i64 3), (.sl .imm kqb3 [])]] none), (.row kqb1 [[(.int .i64 1)]])]
theorem mb18 : gk kb17 30 27 mTb18 mCb18 = some (true, mRb18, mOb18) := by kernel_rfl
noncomputable def kb18 : Gam := memoG 27 mTb18 mCb18 mRb18 mOb18 kb17
theorem kb18_ok : GamOK Try.prog kb18 := memoG_ok kb17_ok (gk_ok kb17_ok 30) mb18
noncomputable def mTb19 : List AV := [(.int .i64 0), (.int .i64 1)]
noncomputable def mCb19 : List Blk := []
noncomputable def mRb19 : AV := (.tup [.nilp, (.int .i64 8)])
noncomputable def mOb19 : List Blk := []
theorem mb19 : gk kb18 30 11 mTb19 mCb19 = some (true, mRb19, mOb19) := by kernel_rfl
noncomputable def kb19 : Gam := memoG 11 mTb19 mCb19 mRb19 mOb19 kb18
theorem kb19_ok : GamOK Try.prog kb19 := memoG_ok kb18_ok (gk_ok kb18_ok 30) mb19
noncomputable def mTb20 : List AV := [(.hp 0 0)]
noncomputable def mCb20 : List Blk := [(.var [(.int .i64 2), (.int .i64 3), (.rf 1 kqb1), (.mp 2 kqb0), (.sl .imm kqb2 []), (.int .i64 2882880), (.int .i64 12)]), (.row kqb1 [[(.int .i64 1)]]), (.tbl kqb0 [[(.int .i64 1), (.int .i64 1), (.int .i64 2), (.int .i64 2162160), (.int .i64 2162160), (.int .i64 6), (.int .i64 3), (.sl .imm kqb3 [])]] none)]
noncomputable def mRb20 : AV := (.int .i64 0)
noncomputable def mOb20 : List Blk := [(.row [] [])]
theorem mb20 : gk kb19 30 34 mTb20 mCb20 = some (true, mRb20, mOb20) := by kernel_rfl
noncomputable def kb20 : Gam := memoG 34 mTb20 mCb20 mRb20 mOb20 kb19
theorem kb20_ok : GamOK Try.prog kb20 := memoG_ok kb19_ok (gk_ok kb19_ok 30) mb20
noncomputable def mTb21 : List AV := [(.hp 0 0)]
noncomputable def mCb21 : List Blk := [(.var [(.int .i64 2), (.int .i64 3), (.rf 1 kqb1), (.mp 2 kqb0), (.sl .imm kqb2 []), (.int .i64 2882880), (.int .i64 12)]), (.row kqb1 [[(.int .i64 1)]]), (.tbl kqb0 [[(.int .i64 1), (.int .i64 1), (.int .i64 2), (.int .i64 2162160), (.int .i64 2162160), (.int .i64 6), (.int .i64 3), (.sl .imm kqb3 [])]] none)]
noncomputable def mRb21 : AV := (.int .i64 2882880)
noncomputable def mOb21 : List Blk := [(.row [] [])]
theorem mb21 : gk kb20 30 36 mTb21 mCb21 = some (true, mRb21, mOb21) := by kernel_rfl
noncomputable def kb21 : Gam := memoG 36 mTb21 mCb21 mRb21 mOb21 kb20
theorem kb21_ok : GamOK Try.prog kb21 := memoG_ok kb20_ok (gk_ok kb20_ok 30) mb21
theorem aw26 : gk kb21 30 26 [] [] = some (true, .bool true, []) := by kernel_rfl
noncomputable def k26 : Gam := fun f T C => match Nat.beq f 26, T, C with
  | true, [], [] => some (true, .bool true, [])
  | _, T, C => k118c f T C
theorem k26_ok : GamOK Try.prog k26 := by
  intro f T C r outs h
  unfold k26 at h
  split at h
  · rename_i hf
    have hf' := Nat.eq_of_beq_eq_true hf
    subst hf'
    have hx : (true, AV.bool true, ([] : List Blk)) = (true, r, outs) := by simpa using h
    injection hx with _ hx
    injection hx with h1 h2
    subst h1 h2
    exact gk_ok kb21_ok 30 26 [] [] _ _ aw26
  · exact k118c_ok _ _ _ r outs h
end Go.Proofs.Gv
