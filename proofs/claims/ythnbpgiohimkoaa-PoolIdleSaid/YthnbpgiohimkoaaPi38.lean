import Derived.Test.YthnbpgiohimkoaaPi36
import Derived.Test.YthnbpgiohimkoaaPi37
import Derived.Test.YthnbpgiohimkoaaPi34
import Derived.Test.YthnbpgiohimkoaaPi30
import Derived.Test.YthnbpgiohimkoaaPi33
import Derived.Test.YthnbpgiohimkoaaPi27
import Derived.KernelRfl
set_option linter.unusedVariables false
namespace Go.Proofs.Gv
open Go.Proofs
abbrev kqb0 : List Kd := [(.int .i64), (.int .i64), (.int .i64), (.int .i64), (.int .i64), (.int .i64), (.sl [(.int .i64), (.int .i64), (.int .i64), (.int .i64)])]
abbrev kqb1 : List Kd := [(.int .i64)]
abbrev kqb2 : List Kd := [(.int .i64), (.int .i64)]
abbrev kqb3 : List Kd := [(.int .i64), (.int .i64), (.int .i64), (.int .i64)]
noncomputable def mTb1 : List AV := [(.int .i64 2), (.int .i64 3)]
noncomputable def mCb1 : List Blk := []
noncomputable def mRb1 : AV := (.tup [(.hp 0 0), (.int .i64 0)])
noncomputable def mOb1 : List Blk := [(.var [(.int .i64 2), (.int .i64 3), .nil, (.mp 1 kqb0), .nil, (.int .i64 0), (.int .i64 0)]), (.tbl kqb0 [] none)]
theorem mb1 : gk k118c 30 11 mTb1 mCb1 = some (true, mRb1, mOb1) := by kernel_rfl
noncomputable def kb1 : Gam := memoG 11 mTb1 mCb1 mRb1 mOb1 k118c
theorem kb1_ok : GamOK Try.prog kb1 := memoG_ok k118c_ok (gk_ok k118c_ok 30) mb1
noncomputable def mTb2 : List AV := [(.hp 0 0), (.int .i64 0), (.int .i64 1)]
noncomputable def mCb2 : List Blk := [(.var [(.int .i64 2), (.int .i64 3), (.rf 1 kqb1), (.mp 2 kqb0), (.sl .imm kqb2 []), (.int .i64 0), (.int .i64 0)]), (.row kqb1 []), (.tbl kqb0 [] none)]
noncomputable def mRb2 : AV := (.int .i64 0)
noncomputable def mOb2 : List Blk := [(.var [(.int .i64 2), (.int .i64 3), (.rf 3 kqb1), (.mp 4 kqb0), (.sl .imm kqb2 []), (.int .i64 0), (.int .i64 0)]), .dead, .dead, (.row kqb1 [[(.int .i64 0)]]), (.tbl kqb0 [[(.int .i64 0), (.int .i64 0), (.int .i64 1), (.int .i64 0), (.int .i64 0), (.int .i64 0), (.int .i64 3), (.sl .imm kqb3 [])]] none)]
theorem mb2 : gk kb1 30 13 mTb2 mCb2 = some (true, mRb2, mOb2) := by kernel_rfl
noncomputable def kb2 : Gam := memoG 13 mTb2 mCb2 mRb2 mOb2 kb1
theorem kb2_ok : GamOK Try.prog kb2 := memoG_ok kb1_ok (gk_ok kb1_ok 30) mb2
noncomputable def mTb3 : List AV := [(.hp 0 0), (.int .i64 1), (.int .i64 2)]
noncomputable def mCb3 : List Blk := [(.var [(.int .i64 2), (.int .i64 3), (.rf 1 kqb1), (.mp 2 kqb0), (.sl .imm kqb2 []), (.int .i64 0), (.int .i64 0)]), (.row kqb1 [[(.int .i64 0)]]), (.tbl kqb0 [[(.int .i64 0), (.int .i64 0), (.int .i64 1), (.int .i64 0), (.int .i64 0), (.int .i64 0), (.int .i64 3), (.sl .imm kqb3 [])]] none)]
noncomputable def mRb3 : AV := (.int .i64 0)
noncomputable def mOb3 : List Blk := [(.var [(.int .i64 2), (.int .i64 3), (.rf 3 kqb1), (.mp 4 kqb0), (.sl .imm kqb2 []), (.int .i64 0), (.int .i64 0)]), .dead, .dead, (.row kqb1 [[(.int .i64 0)], [(.int .i64 1)]]), (.tbl kqb0 [[(.int .i64 0), (.int .i64 0), (.int .i64 1), (.int .i64 0), (.int .i64 0), (.int .i64 0), (.int .i64 3), (.sl .imm kqb3 [])], [(.int .i64 1), (.int .i64 1), (.int .i64 2), (.int .i64 0), (.int .i64 0), (.int .i64 0), (.int .i64 3), (.sl .imm kqb3 [])]] none)]
theorem mb3 : gk kb2 30 13 mTb3 mCb3 = some (true, mRb3, mOb3) := by kernel_rfl
noncomputable def kb3 : Gam := memoG 13 mTb3 mCb3 mRb3 mOb3 kb2
theorem kb3_ok : GamOK Try.prog kb3 := memoG_ok kb2_ok (gk_ok kb2_ok 30) mb3
noncomputable def mTb4 : List AV := [(.hp 0 0), (.int .i64 0), (.int .i64 1), (.int .i64 3), (.int .i64 6)]
noncomputable def mCb4 : List Blk := [(.var [(.int .i64 2), (.int .i64 3), (.rf 1 kqb1), (.mp 2 kqb0), (.sl .imm kqb2 []), (.int .i64 0), (.int .i64 0)]), (.row kqb1 [[(.int .i64 0)], [(.int .i64 1)]]), (.tbl kqb0 [[(.int .i64 0), (.int .i64 0), (.int .i64 1), (.int .i64 0), (.int .i64 0), (.int .i64 0), (.int .i64 3), (.sl .imm kqb3 [])], [(.int .i64 1), (.int .i64 1), (.int .i64 2), (.int .i64 0), (.int .i64 0), (.int .i64 0), (.int .i64 3), (.sl .imm kqb3 [])]] none)]
noncomputable def mRb4 : AV := (.int .i64 0)
noncomputable def mOb4 : List Blk := [(.var [(.int .i64 2), (.int .i64 3), (.rf 1 kqb1), (.mp 2 kqb0), (.sl .imm kqb2 [[(.int .i64 0), (.int .i64 0)]]), (.int .i64 0), (.int .i64 0)]), (.row kqb1 [[(.int .i64 0)], [(.int .i64 1)]]), (.tbl kqb0 [[(.int .i64 0), (.int .i64 0), (.int .i64 1), (.int .i64 0), (.int .i64 0), (.int .i64 0), (.int .i64 3), (.sl .imm kqb3 [[(.int .i64 1), (.int .i64 3), (.int .i64 6), (.int .i64 0)]])], [(.int .i64 1), (.int .i64 1), (.int .i64 2), (.int .i64 0), (.int .i64 0), (.int .i64 0), (.int .i64 3), (.sl .imm kqb3 [])]] none)]
theorem mb4 : gk kb3 30 15 mTb4 mCb4 = some (true, mRb4, mOb4) := by kernel_rfl
noncomputable def kb4 : Gam := memoG 15 mTb4 mCb4 mRb4 mOb4 kb3
theorem kb4_ok : GamOK Try.prog kb4 := memoG_ok kb3_ok (gk_ok kb3_ok 30) mb4
noncomputable def mTb5 : List AV := [(.hp 0 0), (.int .i64 1), (.int .i64 1), (.int .i64 3), (.int .i64 6)]
noncomputable def mCb5 : List Blk := [(.var [(.int .i64 2), (.int .i64 3), (.rf 1 kqb1), (.mp 2 kqb0), (.sl .imm kqb2 [[(.int .i64 0), (.int .i64 0)]]), (.int .i64 0), (.int .i64 0)]), (.row kqb1 [[(.int .i64 0)], [(.int .i64 1)]]), (.tbl kqb0 [[(.int .i64 0), (.int .i64 0), (.int .i64 1), (.int .i64 0), (.int .i64 0), (.int .i64 0), (.int .i64 3), (.sl .imm kqb3 [[(.int .i64 1), (.int .i64 3), (.int .i64 6), (.int .i64 0)]])], [(.int .i64 1), (.int .i64 1), (.int .i64 2), (.int .i64 0), (.int .i64 0), (.int .i64 0), (.int .i64 3), (.sl .imm kqb3 [])]] none)]
noncomputable def mRb5 : AV := (.int .i64 0)
noncomputable def mOb5 : List Blk := [(.var [(.int .i64 2), (.int .i64 3), (.rf 1 kqb1), (.mp 2 kqb0), (.sl .imm kqb2 [[(.int .i64 0), (.int .i64 0)], [(.int .i64 0), (.int .i64 1)]]), (.int .i64 0), (.int .i64 0)]), (.row kqb1 [[(.int .i64 0)], [(.int .i64 1)]]), (.tbl kqb0 [[(.int .i64 0), (.int .i64 0), (.int .i64 1), (.int .i64 0), (.int .i64 0), (.int .i64 0), (.int .i64 3), (.sl .imm kqb3 [[(.int .i64 1), (.int .i64 3), (.int .i64 6), (.int .i64 0)]])], [(.int .i64 1), (.int .i64 1), (.int .i64 2), (.int .i64 0), (.int .i64 0), (.int .i64 0), (.int .i64 3), (.sl .imm kqb3 [[(.int .i64 1), (.int .i64 3), (.int .i64 6), (.int .i64 0)]])]] none)]
theorem mb5 : gk kb4 30 15 mTb5 mCb5 = some (true, mRb5, mOb5) := by kernel_rfl
noncomputable def kb5 : Gam := memoG 15 mTb5 mCb5 mRb5 mOb5 kb4
theorem kb5_ok : GamOK Try.prog kb5 := memoG_ok kb4_ok (gk_ok kb4_ok 30) mb5
noncomputable def mTb6 : List AV := [(.hp 0 0), (.int .i64 1), (.int .i64 2)]
noncomputable def mCb6 : List Blk := [(.var [(.int .i64 2), (.int .i64 3), (.rf 1 kqb1), (.mp 2 kqb0), (.sl .imm kqb2 [[(.int .i64 0), (.int .i64 0)], [(.int .i64 0), (.int .i64 1)]]), (.int .i64 0), (.int .i64 0)]), (.row kqb1 [[(.int .i64 0)], [(.int .i64 1)]]), (.tbl kqb0 [[(.int .i64 0), (.int .i64 0), (.int .i64 1), (.int .i64 0), (.int .i64 0), (.int .i64 0), (.int .i64 3), (.sl .imm kqb3 [[(.int .i64 1), (.int .i64 3), (.int .i64 6), (.int .i64 0)]])], [(.int .i64 1), (.int .i64 1), (.int .i64 2), (.int .i64 0), (.int .i64 0), (.int .i64 0), (.int .i64 3), (.sl .imm kqb3 [[(.int .i64 1), (.int .i64 3), (.int .i64 6), (.int .i64 0)]])]] none)]
noncomputable def mRb6 : AV := (.int .i64 12)
noncomputable def mOb6 : List Blk := [(.var [(.int .i64 2), (.int .i64 3), (.rf 3 kqb1), (.mp 4 kqb0), (.sl .imm kqb2 [[(.int .i64 0), (.int .i64 0)], [(.int .i64 0), (.int .i64 1)]]), (.int .i64 0), (.int .i64 0)]), .dead, .dead, (.row kqb1 [[(.int .i64 0)], [(.int .i64 1)]]), (.tbl kqb0 [[(.int .i64 0), (.int .i64 0), (.int .i64 1), (.int .i64 0), (.int .i64 0), (.int .i64 0), (.int .i64 3), (.sl .imm kqb3 [[(.int .i64 1), (.int .i64 3), (.int .i64 6), (.int .i64 0)]])], [(.int .i64 1), (.int .i64 1), (.int .i64 2), (.int .i64 0), (.int .i64 0), (.int .i64 0), (.int .i64 3), (.sl .imm kqb3 [[(.int .i64 1), (.int .i64 3), (.int .i64 6), (.int .i64 0)]])]] none)]
theorem mb6 : gk kb5 30 13 mTb6 mCb6 = some (true, mRb6, mOb6) := by kernel_rfl
noncomputable def kb6 : Gam := memoG 13 mTb6 mCb6 mRb6 mOb6 kb5
theorem kb6_ok : GamOK Try.prog kb6 := memoG_ok kb5_ok (gk_ok kb5_ok 30) mb6
noncomputable def mTb7 : List AV := [(.hp 0 0), (.int .i64 0), (.int .i64 9)]
noncomputable def mCb7 : List Blk := [(.var [(.int .i64 2), (.int .i64 3), (.rf 1 kqb1), (.mp 2 kqb0), (.sl .imm kqb2 [[(.int .i64 0), (.int .i64 0)], [(.int .i64 0), (.int .i64 1)]]), (.int .i64 0), (.int .i64 0)]), (.row kqb1 [[(.int .i64 0)], [(.int .i64 1)]]), (.tbl kqb0 [[(.int .i64 0), (.int .i64 0), (.int .i64 1), (.int .i64 0), (.int .i64 0), (.int .i64 0), (.int .i64 3), (.sl .imm kqb3 [[(.int .i64 1), (.int .i64 3), (.int .i64 6), (.int .i64 0)]])], [(.int .i64 1), (.int .i64 1), (.int .i64 2), (.int .i64 0), (.int .i64 0), (.int .i64 0), (.int .i64 3), (.sl .imm kqb3 [[(.int .i64 1), (.int .i64 3), (.int .i64 6), (.int .i64 0)]])]] none)]
noncomputable def mRb7 : AV := (.int .i64 6)
noncomputable def mOb7 : List Blk := [(.var [(.int .i64 2), (.int .i64 3), (.rf 1 kqb1), (.mp 2 kqb0), (.sl .imm kqb2 [[(.int .i64 0), (.int .i64 0)], [(.int .i64 0), (.int .i64 1)]]), (.int .i64 0), (.int .i64 0)]), (.row kqb1 [[(.int .i64 0)], [(.int .i64 1)]]), (.tbl kqb0 [[(.int .i64 0), (.int .i64 0), (.int .i64 1), (.int .i64 0), (.int .i64 0), (.int .i64 0), (.int .i64 3), (.sl .imm kqb3 [[(.int .i64 1), (.int .i64 3), (.int .i64 6), (.int .i64 0)]])], [(.int .i64 1), (.int .i64 1), (.int .i64 2), (.int .i64 0), (.int .i64 0), (.int .i64 0), (.int .i64 3), (.sl .imm kqb3 [[(.int .i64 1), (.int .i64 3), (.int .i64 6), (.int .i64 0)]])]] none)]
theorem mb7 : gk kb6 30 29 mTb7 mCb7 = some (true, mRb7, mOb7) := by kernel_rfl
noncomputable def kb7 : Gam := memoG 29 mTb7 mCb7 mRb7 mOb7 kb6
theorem kb7_ok : GamOK Try.prog kb7 := memoG_ok kb6_ok (gk_ok kb6_ok 30) mb7
noncomputable def mTb8 : List AV := [(.hp 0 0)]
noncomputable def mCb8 : List Blk := [(.var [(.int .i64 2), (.int .i64 3), (.rf 1 kqb1), (.mp 2 kqb0), (.sl .imm kqb2 [[(.int .i64 0), (.int .i64 0)], [(.int .i64 0), (.int .i64 1)]]), (.int .i64 0), (.int .i64 0)]), (.row kqb1 [[(.int .i64 0)], [(.int .i64 1)]]), (.tbl kqb0 [[(.int .i64 0), (.int .i64 0), (.int .i64 1), (.int .i64 0), (.int .i64 0), (.int .i64 0), (.int .i64 3), (.sl .imm kqb3 [[(.int .i64 1), (.int .i64 3), (.int .i64 6), (.int .i64 0)]])], [(.int .i64 1), (.int .i64 1), (.int .i64 2), (.int .i64 0), (.int .i64 0), (.int .i64 0), (.int .i64 3), (.sl .imm kqb3 [[(.int .i64 1), (.int .i64 3), (.int .i64 6), (.int .i64 0)]])]] none)]
noncomputable def mRb8 : AV := (.int .i64 12)
noncomputable def mOb8 : List Blk := [(.row [] [])]
theorem mb8 : gk kb7 30 34 mTb8 mCb8 = some (true, mRb8, mOb8) := by kernel_rfl
noncomputable def kb8 : Gam := memoG 34 mTb8 mCb8 mRb8 mOb8 kb7
theorem kb8_ok : GamOK Try.prog kb8 := memoG_ok kb7_ok (gk_ok kb7_ok 30) mb8
noncomputable def mTb9 : List AV := [(.hp 0 0)]
noncomputable def mCb9 : List Blk := [(.var [(.int .i64 2), (.int .i64 3), (.rf 1 kqb1), (.mp 2 kqb0), (.sl .imm kqb2 [[(.int .i64 0), (.int .i64 0)], [(.int .i64 0), (.int .i64 1)]]), (.int .i64 0), (.int .i64 0)]), (.row kqb1 [[(.int .i64 0)], [(.int .i64 1)]]), (.tbl kqb0 [[(.int .i64 0), (.int .i64 0), (.int .i64 1), (.int .i64 0), (.int .i64 0), (.int .i64 0), (.int .i64 3), (.sl .imm kqb3 [[(.int .i64 1), (.int .i64 3), (.int .i64 6), (.int .i64 0)]])], [(.int .i64 1), (.int .i64 1), (.int .i64 2), (.int .i64 0), (.int .i64 0), (.int .i64 0), (.int .i64 3), (.sl .imm kqb3 [[(.int .i64 1), (.int .i64 3), (.int .i64 6), (.int .i64 0)]])]] none)]
noncomputable def mRb9 : AV := (.tup [(.agg [(.int .i64 0), (.int .i64 1), (.int .i64 2), (.int .i64 4)]), (.bool .true)])
noncomputable def mOb9 : List Blk := [(.var [(.int .i64 2), (.int .i64 3), (.rf 1 kqb1), (.mp 2 kqb0), (.sl .imm kqb2 [[(.int .i64 0), (.int .i64 1)], [(.int .i64 1441440), (.int .i64 0)]]), (.int .i64 0), (.int .i64 2)]), (.row kqb1 [[(.int .i64 0)], [(.int .i64 1)]]), (.tbl kqb0 [[(.int .i64 0), (.int .i64 0), (.int .i64 1), (.int .i64 1441440), (.int .i64 1441440), (.int .i64 2), (.int .i64 3), (.sl .imm kqb3 [[(.int .i64 1), (.int .i64 3), (.int .i64 4), (.int .i64 0)]])], [(.int .i64 1), (.int .i64 1), (.int .i64 2), (.int .i64 0), (.int .i64 0), (.int .i64 0), (.int .i64 3), (.sl .imm kqb3 [[(.int .i64 1), (.int .i64 3), (.int .i64 6), (.int .i64 0)]])]] none)]
theorem mb9 : gk kb8 30 31 mTb9 mCb9 = some (true, mRb9, mOb9) := by kernel_rfl
noncomputable def kb9 : Gam := memoG 31 mTb9 mCb9 mRb9 mOb9 kb8
theorem kb9_ok : GamOK Try.prog kb9 := memoG_ok kb8_ok (gk_ok kb8_ok 30) mb9
noncomputable def mTb10 : List AV := [(.hp 0 0)]
noncomputable def mCb10 : List Blk := [(.var [(.int .i64 2), (.int .i64 3), (.rf 1 kqb1), (.mp 2 kqb0), (.sl .imm kqb2 [[(.int .i64 0), (.int .i64 1)], [(.int .i64 1441440), (.int .i64 0)]]), (.int .i64 0), (.int .i64 2)]), (.row kqb1 [[(.int .i64 0)], [(.int .i64 1)]]), (.tbl kqb0 [[(.int .i64 0), (.int .i64 0), (.int .i64 1), (.int .i64 1441440), (.int .i64 1441440), (.int .i64 2), (.int .i64 3), (.sl .imm kqb3 [[(.int .i64 1), (.int .i64 3), (.int .i64 4), (.int .i64 0)]])], [(.int .i64 1), (.int .i64 1), (.int .i64 2), (.int .i64 0), (.int .i64 0), (.int .i64 0), (.int .i64 3), (.sl .imm kqb3 [[(.int .i64 1), (.int .i64 3), (.int .i64 6), (.int .i64 0)]])]] none)]
noncomputable def mRb10 : AV := (.tup [(.agg [(.int .i64 1), (.int .i64 1), (.int .i64 2), (.int .i64 4)]), (.bool .true)])
noncomputable def mOb10 : List Blk := [(.var [(.int .i64 2), (.int .i64 3), (.rf 1 kqb1), (.mp 2 kqb0), (.sl .imm kqb2 [[(.int .i64 720720), (.int .i64 1)], [(.int .i64 1441440), (.int .i64 0)]]), (.int .i64 0), (.int .i64 4)]), (.row kqb1 [[(.int .i64 0)], [(.int .i64 1)]]), (.tbl kqb0 [[(.int .i64 0), (.int .i64 0), (.int .i64 1), (.int .i64 1441440), (.int .i64 1441440), (.int .i64 2), (.int .i64 3), (.sl .imm kqb3 [[(.int .i64 1), (.int .i64 3), (.int .i64 4), (.int .i64 0)]])], [(.int .i64 1), (.int .i64 1), (.int .i64 2), (.int .i64 720720), (.int .i64 720720), (.int .i64 2), (.int .i64 3), (.sl .imm kqb3 [[(.int .i64 1), (.int .i64 3), (.int .i64 4), (.int .i64 0)]])]] none)]
theorem mb10 : gk kb9 30 31 mTb10 mCb10 = some (true, mRb10, mOb10) := by kernel_rfl
noncomputable def kb10 : Gam := memoG 31 mTb10 mCb10 mRb10 mOb10 kb9
theorem kb10_ok : GamOK Try.prog kb10 := memoG_ok kb9_ok (gk_ok kb9_ok 30) mb10
noncomputable def mTb11 : List AV := [(.hp 0 0)]
noncomputable def mCb11 : List Blk := [(.var [(.int .i64 2), (.int .i64 3), (.rf 1 kqb1), (.mp 2 kqb0), (.sl .imm kqb2 [[(.int .i64 720720), (.int .i64 1)], [(.int .i64 1441440), (.int .i64 0)]]), (.int .i64 0), (.int .i64 4)]), (.row kqb1 [[(.int .i64 0)], [(.int .i64 1)]]), (.tbl kqb0 [[(.int .i64 0), (.int .i64 0), (.int .i64 1), (.int .i64 1441440), (.int .i64 1441440), (.int .i64 2), (.int .i64 3), (.sl .imm kqb3 [[(.int .i64 1), (.int .i64 3), (.int .i64 4), (.int .i64 0)]])], [(.int .i64 1), (.int .i64 1), (.int .i64 2), (.int .i64 720720), (.int .i64 720720), (.int .i64 2), (.int .i64 3), (.sl .imm kqb3 [[(.int .i64 1), (.int .i64 3), (.int .i64 4), (.int .i64 0)]])]] none)]
noncomputable def mRb11 : AV := (.tup [(.agg [(.int .i64 1), (.int .i64 1), (.int .i64 2), (.int .i64 2)]), (.bool .true)])
noncomputable def mOb11 : List Blk := [(.var [(.int .i64 2), (.int .i64 3), (.rf 1 kqb1), (.mp 2 kqb0), (.sl .imm kqb2 [[(.int .i64 1441440), (.int .i64 0)], [(.int .i64 1441440), (.int .i64 1)]]), (.int .i64 720720), (.int .i64 6)]), (.row kqb1 [[(.int .i64 0)], [(.int .i64 1)]]), (.tbl kqb0 [[(.int .i64 0), (.int .i64 0), (.int .i64 1), (.int .i64 1441440), (.int .i64 1441440), (.int .i64 2), (.int .i64 3), (.sl .imm kqb3 [[(.int .i64 1), (.int .i64 3), (.int .i64 4), (.int .i64 0)]])], [(.int .i64 1), (.int .i64 1), (.int .i64 2), (.int .i64 1441440), (.int .i64 1441440), (.int .i64 4), (.int .i64 3), (.sl .imm kqb3 [[(.int .i64 1), (.int .i64 3), (.int .i64 2), (.int .i64 0)]])]] none)]
theorem mb11 : gk kb10 30 31 mTb11 mCb11 = some (true, mRb11, mOb11) := by kernel_rfl
noncomputable def kb11 : Gam := memoG 31 mTb11 mCb11 mRb11 mOb11 kb10
theorem kb11_ok : GamOK Try.prog kb11 := memoG_ok kb10_ok (gk_ok kb10_ok 30) mb11
noncomputable def mTb12 : List AV := [(.hp 0 0)]
noncomputable def mCb12 : List Blk := [(.var [(.int .i64 2), (.int .i64 3), (.rf 1 kqb1), (.mp 2 kqb0), (.sl .imm kqb2 [[(.int .i64 1441440), (.int .i64 0)], [(.int .i64 1441440), (.int .i64 1)]]), (.int .i64 720720), (.int .i64 6)]), (.row kqb1 [[(.int .i64 0)], [(.int .i64 1)]]), (.tbl kqb0 [[(.int .i64 0), (.int .i64 0), (.int .i64 1), (.int .i64 1441440), (.int .i64 1441440), (.int .i64 2), (.int .i64 3), (.sl .imm kqb3 [[(.int .i64 1), (.int .i64 3), (.int .i64 4), (.int .i64 0)]])], [(.int .i64 1), (.int .i64 1), (.int .i64 2), (.int .i64 1441440), (.int .i64 1441440), (.int .i64 4), (.int .i64 3), (.sl .imm kqb3 [[(.int .i64 1), (.int .i64 3), (.int .i64 2), (.int .i64 0)]])]] none)]
noncomputable def mRb12 : AV := (.tup [(.agg [(.int .i64 0), (.int .i64 1), (.int .i64 2), (.int .i64 2)]), (.bool .true)])
noncomputable def mOb12 : List Blk := [(.var [(.int .i64 2), (.int .i64 3), (.rf 1 kqb1), (.mp 2 kqb0), (.sl .imm kqb2 [[(.int .i64 1441440), (.int .i64 1)], [(.int .i64 2882880), (.int .i64 0)]]), (.int .i64 1441440), (.int .i64 8)]), (.row kqb1 [[(.int .i64 0)], [(.int .i64 1)]]), (.tbl kqb0 [[(.int .i64 0), (.int .i64 0), (.int .i64 1), (.int .i64 2882880), (.int .i64 2882880), (.int .i64 4), (.int .i64 3), (.sl .imm kqb3 [[(.int .i64 1), (.int .i64 3), (.int .i64 2), (.int .i64 0)]])], [(.int .i64 1), (.int .i64 1), (.int .i64 2), (.int .i64 1441440), (.int .i64 1441440), (.int .i64 4), (.int .i64 3), (.sl .imm kqb3 [[(.int .i64 1), (.int .i64 3), (.int .i64 2), (.int .i64 0)]])]] none)]
theorem mb12 : gk kb11 30 31 mTb12 mCb12 = some (true, mRb12, mOb12) := by kernel_rfl
noncomputable def kb12 : Gam := memoG 31 mTb12 mCb12 mRb12 mOb12 kb11
theorem kb12_ok : GamOK Try.prog kb12 := memoG_ok kb11_ok (gk_ok kb11_ok 30) mb12
noncomputable def mTb13 : List AV := [(.hp 0 0)]
noncomputable def mCb13 : List Blk := [(.var [(.int .i64 2), (.int .i64 3), (.rf 1 kqb1), (.mp 2 kqb0), (.sl .imm kqb2 [[(.int .i64 1441440), (.int .i64 1)], [(.int .i64 2882880), (.int .i64 0)]]), (.int .i64 1441440), (.int .i64 8)]), (.row kqb1 [[(.int .i64 0)], [(.int .i64 1)]]), (.tbl kqb0 [[(.int .i64 0), (.int .i64 0), (.int .i64 1), (.int .i64 2882880), (.int .i64 2882880), (.int .i64 4), (.int .i64 3), (.sl .imm kqb3 [[(.int .i64 1), (.int .i64 3), (.int .i64 2), (.int .i64 0)]])], [(.int .i64 1), (.int .i64 1), (.int .i64 2), (.int .i64 1441440), (.int .i64 1441440), (.int .i64 4), (.int .i64 3), (.sl .imm kqb3 [[(.int .i64 1), (.int .i64 3), (.int .i64 2), (.int .i64 0)]])]] none)]
noncomputable def mRb13 : AV := (.tup [(.agg [(.int .i64 1), (.int .i64 1), (.int .i64 2), (.int .i64 0)]), (.bool .true)])
noncomputable def mOb13 : List Blk := [(.var [(.int .i64 2), (.int .i64 3), (.rf 1 kqb1), (.mp 2 kqb0), (.sl .imm kqb2 [[(.int .i64 2882880), (.int .i64 0)]]), (.int .i64 1441440), (.int .i64 10)]), (.row kqb1 [[(.int .i64 0)], [(.int .i64 1)]]), (.tbl kqb0 [[(.int .i64 0), (.int .i64 0), (.int .i64 1), (.int .i64 2882880), (.int .i64 2882880), (.int .i64 4), (.int .i64 3), (.sl .imm kqb3 [[(.int .i64 1), (.int .i64 3), (.int .i64 2), (.int .i64 0)]])], [(.int .i64 1), (.int .i64 1), (.int .i64 2), (.int .i64 2162160), (.int .i64 2162160), (.int .i64 6), (.int .i64 3), (.sl .imm kqb3 [])]] none)]
theorem mb13 : gk kb12 30 31 mTb13 mCb13 = some (true, mRb13, mOb13) := by kernel_rfl
noncomputable def kb13 : Gam := memoG 31 mTb13 mCb13 mRb13 mOb13 kb12
theorem kb13_ok : GamOK Try.prog kb13 := memoG_ok kb12_ok (gk_ok kb12_ok 30) mb13
noncomputable def mTb14 : List AV := [(.hp 0 0)]
noncomputable def mCb14 : List Blk := [(.var [(.int .i64 2), (.int .i64 3), (.rf 1 kqb1), (.mp 2 kqb0), (.sl .imm kqb2 [[(.int .i64 2882880), (.int .i64 0)]]), (.int .i64 1441440), (.int .i64 10)]), (.row kqb1 [[(.int .i64 0)], [(.int .i64 1)]]), (.tbl kqb0 [[(.int .i64 0), (.int .i64 0), (.int .i64 1), (.int .i64 2882880), (.int .i64 2882880), (.int .i64 4), (.int .i64 3), (.sl .imm kqb3 [[(.int .i64 1), (.int .i64 3), (.int .i64 2), (.int .i64 0)]])], [(.int .i64 1), (.int .i64 1), (.int .i64 2), (.int .i64 2162160), (.int .i64 2162160), (.int .i64 6), (.int .i64 3), (.sl .imm kqb3 [])]] none)]
noncomputable def mRb14 : AV := (.tup [(.agg [(.int .i64 0), (.int .i64 1), (.int .i64 2), (.int .i64 0)]), (.bool .true)])
noncomputable def mOb14 : List Blk := [(.var [(.int .i64 2), (.int .i64 3), (.rf 1 kqb1), (.mp 2 kqb0), (.sl .imm kqb2 []), (.int .i64 2882880), (.int .i64 12)]), (.row kqb1 [[(.int .i64 0)], [(.int .i64 1)]]), (.tbl kqb0 [[(.int .i64 0), (.int .i64 0), (.int .i64 1), (.int .i64 4324320), (.int .i64 4324320), (.int .i64 6), (.int .i64 3), (.sl .imm kqb3 [])], [(.int .i64 1), (.int .i64 1), (.int .i64 2), (.int .i64 2162160), (.int .i64 2162160), (.int .i64 6), (.int .i64 3), (.sl .imm kqb3 [])]] none)]
theorem mb14 : gk kb13 30 31 mTb14 mCb14 = some (true, mRb14, mOb14) := by kernel_rfl
noncomputable def kb14 : Gam := memoG 31 mTb14 mCb14 mRb14 mOb14 kb13
theorem kb14_ok : GamOK Try.prog kb14 := memoG_ok kb13_ok (gk_ok kb13_ok 30) mb14
noncomputable def mTb15 : List AV := [(.hp 0 0)]
noncomputable def mCb15 : List Blk := [(.var [(.int .i64 2), (.int .i64 3), (.rf 1 kqb1), (.mp 2 kqb0), (.sl .imm kqb2 []), (.int .i64 2882880), (.int .i64 12)]), (.row kqb1 [[(.int .i64 0)], [(.int .i64 1)]]), (.tbl kqb0 [[(.int .i64 0), (.int .i64 0), (.int .i64 1), (.int .i64 4324320), (.int .i64 4324320), (.int .i64 6), (.int .i64 3), (.sl .imm kqb3 [])], [(.int .i64 1), (.int .i64 1), (.int .i64 2), (.int .i64 2162160), (.int .i64 2162160), (.int .i64 6), (.int .i64 3), (.sl .imm kqb3 [])]] none)]
noncomputable def mRb15 : AV := (.tup [(.agg [(.int .i64 0), (.int .i64 0), (.int .i64 0), (.int .i64 0)]), (.bool .false)])
noncomputable def mOb15 : List Blk := [(.var [(.int .i64 2), (.int .i64 3), (.rf 1 kqb1), (.mp 2 kqb0), (.sl .imm kqb2 []), (.int .i64 2882880), (.int .i64 12)]), (.row kqb1 [[(.int .i64 0)], [(.int .i64 1)]]), (.tbl kqb0 [[(.int .i64 0), (.int .i64 0), (.int .i64 1), (.int .i64 4324320), (.int .i64 4324320), (.int .i64 6), (.int .i64 3), (.sl .imm kqb3 [])], [(.int .i64 1), (.int .i64 1), (.int .i64 2), (.int .i64 2162160), (.int .i64 2162160), (.int .i64 6), (.int .i64 3), (.sl .imm kqb3 [])]] none)]
theorem mb15 : gk kb14 30 31 mTb15 mCb15 = some (true, mRb15, mOb15) := by kernel_rfl
noncomputable def kb15 : Gam := memoG 31 mTb15 mCb15 mRb15 mOb15 kb14
theorem kb15_ok : GamOK Try.prog kb15 := memoG_ok kb14_ok (gk_ok kb14_ok 30) mb15
noncomputable def mTb16 : List AV := [(.hp 0 0)]
noncomputable def mCb16 : List Blk := [(.var [(.int .i64 2), (.int .i64 3), (.rf 1 kqb1), (.mp 2 kqb0), (.sl .imm kqb2 []), (.int .i64 2882880), (.int .i64 12)]), (.row kqb1 [[(.int .i64 0)], [(.int .i64 1)]]), (.tbl kqb0 [[(.int .i64 0), (.int .i64 0), (.int .i64 1), (.int .i64 4324320), (.int .i64 4324320), (.int .i64 6), (.int .i64 3), (.sl .imm kqb3 [])], [(.int .i64 1), (.int .i64 1), (.int .i64 2), (.int .i64 2162160), (.int .i64 2162160), (.int .i64 6), (.int .i64 3), (.sl .imm kqb3 [])]] none)]
noncomputable def mRb16 : AV := (.sl .imm kqb0 [[(.int .i64 0), (.int .i64 1), (.int .i64 4324320), (.int .i64 4324320), (.int .i64 6), (.int .i64 3), (.sl .imm kqb3 [])], [(.int .i64 1), (.int .i64 2), (.int .i64 2162160), (.int .i64 2162160), (.int .i64 6), (.int .i64 3), (.sl .imm kqb3 [])]])
noncomputable def mOb16 : List Blk := [(.row [] [])]
theorem mb16 : gk kb15 30 35 mTb16 mCb16 = some (true, mRb16, mOb16) := by kernel_rfl
noncomputable def kb16 : Gam := memoG 35 mTb16 mCb16 mRb16 mOb16 kb15
theorem kb16_ok : GamOK Try.prog kb16 := memoG_ok kb15_ok (gk_ok kb15_ok 30) mb16
noncomputable def mTb17 : List AV := [(.hp 0 0)]
noncomputable def mCb17 : List Blk := [(.var [(.int .i64 2), (.int .i64 3), (.rf 1 kqb1), (.mp 2 kqb0), (.sl .imm kqb2 []), (.int .i64 2882880), (.int .i64 12)]), (.row kqb1 [[(.int .i64 0)], [(.int .i64 1)]]), (.tbl kqb0 [[(.int .i64 0), (.int .i64 0), (.int .i64 1), (.int .i64 4324320), (.int .i64 4324320), (.int .i64 6), (.int .i64 3), (.sl .imm kqb3 [])], [(.int .i64 1), (.int .i64 1), (.int .i64 2), (.int .i64 2162160), (.int .i64 2162160), (.int .i64 6), (.int .i64 3), (.sl .imm kqb3 [])]] none)]
noncomputable def mRb17 : AV := (.int .i64 12)
noncomputable def mOb17 : List Blk := [(.row [] [])]
theorem mb17 : gk kb16 30 37 mTb17 mCb17 = some (true, mRb17, mOb17) := by kernel_rfl
noncomputable def kb17 : Gam := memoG 37 mTb17 mCb17 mRb17 mOb17 kb16
theorem kb17_ok : GamOK Try.prog kb17 := memoG_ok kb16_ok (gk_ok kb16_ok 30) mb17
noncomputable def mTb18 : List AV := [(.hp 0 0), (.int .i64 0)]
noncomputable def mCb18 : List Blk := [(.var [(.int .i64 2), (.int .i64 3), (.rf 1 kqb1), (.mp 2 kqb0), (.sl .imm kqb2 []), (.int .i64 2882880), (.int .i64 12)]), (.row kqb1 [[(.int .i64 0)], [(.int .i64 1)]]), (.tbl kqb0 [[(.int .i64 0), (.int .i64 0), (.int .i64 1), (.int .i64 4324320), (.int .i64 4324320), (.int .i64 6), (.int .i64 3), (.sl .imm kqb3 [])], [(.int .i64 1), (.int .i64 1), (.int .i64 2), (.int .i64 2162160), (.int .i64 2162160), (.int .i64 6), (.int .i64 3), (.sl .imm kqb3 [])]] none)]
noncomputable def mRb18 : AV := (.int .i64 0)
noncomputable def mOb18 : List Blk := [(.var [(.int .i64 2), (.int .i64 3), (.rf 3 kqb1), (.mp 2 kqb0), (.sl .imm kqb2 []), (.int .i64 2882880), (.int .i64 12)]), .dead, (.tbl kqb0 [[(.int .i64 1), (.int .i64 1), (.int .i64 2), (.int .i64 2162160), (.int .i64 2162160), (.int .i64 6), (.int .i64 3), (.sl .imm kqb3 [])]] none), (.row kqb1 [[(.int .i64 1)]])]
theorem mb18 : gk kb17 30 27 mTb18 mCb18 = some (true, mRb18, mOb18) := by kernel_rfl
noncomputable def kb18 : Gam := memoG 27 mTb18 mCb18 mRb18 mOb18 kb17
theorem kb18_ok : GamOK Try.prog kb18 := memoG_ok kb17_ok (gk_ok kb17_ok 30) mb18
noncomputable def mTb19 : List AV := [(.int .i64 0), (.int .i64 1)]
noncomputable def mCb19 : List Blk := []
noncomputable def mRb19 : AV := (.tup [.nilp, (.int .i64 8)])
noncomputable def mOb19 : List Blk := []
theorem mb19 : gk kb18 30 11 mTb19 mCb19 = some (true, mRb19, mOb19) := by kernel_rfl
noncomputable def kb19 : Gam := memoG 11 mTb19 mCb19 mRb19 mOb19 kb18
theorem kb19_ok : GamOK Try.prog kb19 := memoG_ok kb18_ok (gk_ok kb18_ok 30) mb19
noncomputable def mTb20 : List AV := [(.hp 0 0)]
noncomputable def mCb20 : List Blk := [(.var [(.int .i64 2), (.int .i64 3), (.rf 1 kqb1), (.mp 2 kqb0), (.sl .imm kqb2 []), (.int .i64 2882880), (.int .i64 12)]), (.row kqb1 [[(.int .i64 1)]]), (.tbl kqb0 [[(.int .i64 1), (.int .i64 1), (.int .i64 2), (.int .i64 2162160), (.int .i64 2162160), (.int .i64 6), (.int .i64 3), (.sl .imm kqb3 [])]] none)]
noncomputable def mRb20 : AV := (.int .i64 0)
noncomputable def mOb20 : List Blk := [(.row [] [])]
theorem mb20 : gk kb19 30 34 mTb20 mCb20 = some (true, mRb20, mOb20) := by kernel_rfl
noncomputable def kb20 : Gam := memoG 34 mTb20 mCb20 mRb20 mOb20 kb19
theorem kb20_ok : GamOK Try.prog kb20 := memoG_ok kb19_ok (gk_ok kb19_ok 30) mb20
noncomputable def mTb21 : List AV := [(.hp 0 0)]
noncomputable def mCb21 : List Blk := [(.var [(.int .i64 2), (.int .i64 3), (.rf 1 kqb1), (.mp 2 kqb0), (.sl .imm kqb2 []), (.int .i64 2882880), (.int .i64 12)]), (.row kqb1 [[(.int .i64 1)]]), (.tbl kqb0 [[(.int .i64 1), (.int .i64 1), (.int .i64 2), (.int .i64 2162160), (.int .i64 2162160), (.int .i64 6), (.int .i64 3), (.sl .imm kqb3 [])]] none)]
noncomputable def mRb21 : AV := (.int .i64 2882880)
noncomputable def mOb21 : List Blk := [(.row [] [])]
theorem mb21 : gk kb20 30 36 mTb21 mCb21 = some (true, mRb21, mOb21) := by kernel_rfl
noncomputable def kb21 : Gam := memoG 36 mTb21 mCb21 mRb21 mOb21 kb20
theorem kb21_ok : GamOK Try.prog kb21 := memoG_ok kb20_ok (gk_ok kb20_ok 30) mb21
theorem aw26 : gk kb21 30 26 [] [] = some (true, .bool true, []) := by kernel_rfl
noncomputable def k26 : Gam := fun f T C => match Nat.beq f 26, T, C with
 | true, [], [] => some (true, .bool true, [])
 | _, T, C => k118c f T C
theorem k26_ok : GamOK Try.prog k26 := by
 intro f T C r outs h
 unfold k26 at h
 split at h
 ·rename_i hf
  have hf' := Nat.eq_of_beq_eq_true hf
  subst hf'
  have hx : (true, AV.bool true, ([] : List Blk)) = (true, r, outs) := by simpa using h
  injection hx with _ hx
  injection hx with h1 h2
  subst h1 h2
  exact gk_ok kb21_ok 30 26 [] [] _ _ aw26
 ·exact k118c_ok _ _ _ r outs h
end Go.Proofs.Gv
namespace Go.Proofs.Gv
open Go.Proofs
noncomputable abbrev eF (k : Gam) (lsp : Lsp) (f : Nat) (fn : Func) (T : List AV) (C : List Blk) := evFin (cfg Try.prog tab 100000 (gk k 30) lsp f C.length fn.ntmps) C.length fn.resultTypes.toList fn T C
noncomputable abbrev rV (k : Gam) (rest : Lsp) (f n : Nat) (fn : Func) (i : Nat) := roundV (cfg Try.prog tab 100000 (gk k 30) rest f n fn.ntmps) (loopAt fn i)
noncomputable abbrev lO (k : Gam) (l : Lsp) (f n : Nat) (fn : Func) (i : Nat) := LoopOK1 (cfg Try.prog tab 100000 (gk k 30) l f n fn.ntmps) (loopAt fn i)
noncomputable abbrev lsO (k : Gam) (l : Lsp) (f n : Nat) (fn : Func) (c : Code) := LoopsOK (cfg Try.prog tab 100000 (gk k 30) l f n fn.ntmps) c
theorem okE {k : Gam} {lsp : Lsp} {f : Nat} {fn : Func} {T : List AV} {C : List Blk} {b : Bool} {x : Bool × AV × List Blk} {r : AV} {o : List Blk} (hk : GamOK Try.prog k) (hf : Try.prog.funcs[f]? = some fn)
  (hl : ∀ c, fn.body = some c → LoopsOK (cfg Try.prog tab 100000 (gk k 30) lsp f C.length fn.ntmps) c) (he : eF k lsp f fn T C = bif b then some x else none) (hs : spW b (some x) = some (true, r, o)) : Enters Try.prog f ∧ FnOK Try.prog f T C r (unk C o) := by
 obtain ⟨b', r', o'⟩ := x
 unfold spW at hs
 injection hs with hs
 injection hs with h1 hs
 injection hs with h2 h3
 subst h1 h2 h3
 rw [cond_true] at he
 obtain ⟨r0, o0, h0, he⟩ := evFin_inv he
 have hb := fin_true he
 subst hb
 obtain ⟨h1, h2⟩ := fn_ok mixed plain (gk_ok hk 30) hf hl h0
 exact ⟨h1, h2.fin he⟩
end Go.Proofs.Gv
namespace Go.Proofs.Gv
open Go.Proofs
noncomputable def vev80_0 (n a b : Int) : Bool := bif decide (a ≤ n) then bif true then decide (n ≤ b) else false else false
theorem ev80 (n a b : Int) : eF k26 noLsp 80 Try.f80 [iA n, iA a, iA b] [] = bif true then some (true, AV.bool (vev80_0 n a b), []) else none := by
 refine Eq.trans (b := bif bif decide (a ≤ n) then true else true then some (true, AV.bool (bif decide (a ≤ n) then bif true then decide (n ≤ b) else false else false), []) else none) (by kernel_rfl) ?_
 unfold vev80_0
 generalize (decide (a ≤ n)) = c0
 cases c0
 ·skip
  rfl
 ·skip
  rfl
noncomputable def sp80 : Sp
 | [.int .i64 n, .int .i64 a, .int .i64 b], [] => spW (true) (some ((true, AV.bool (vev80_0 n a b), [])))
 | _, _ => none
noncomputable def k80 : Gam := spG 80 sp80 k26
theorem k80_ok : GamOK Try.prog k80 := spG_ok k26_ok fun T C r outs hs => by
   unfold sp80 at hs
   split at hs
   ·rename_i n a b
    obtain ⟨hb, rfl, rfl⟩ := spT_inv hs
    have he := ev80 n a b
    obtain ⟨r0, o0, h0, he⟩ := evFin_inv he
    obtain ⟨h1, h2⟩ := fn_ok mixed plain (gk_ok k26_ok 30) Try.func80 (fun c _ => LoopsOK.none (fun _ _ => rfl) c) h0
    exact ⟨h1, h2.fin he⟩
   ·cases hs
noncomputable def vev84_0 (a b c d : Int) : Bool := bif vev80_0 a 1 2147483647 then bif bif true then vev80_0 b 0 7 else false then bif bif true then vev80_0 c 1 1099511627776 else false then bif true then vev80_0 d 0 2000 else false else false else false else false
theorem ev84 (a b c d : Int) : eF k80 noLsp 84 Try.f84 [.agg [iA a, iA b, iA c, iA d]] [] = bif true then some (true, AV.bool (vev84_0 a b c d), []) else none := by
 refine Eq.trans (b := bif bif vev80_0 a 1 2147483647 then bif bif true then vev80_0 b 0 7 else false then bif bif true then vev80_0 c 1 1099511627776 else false then true else true else true else true then some (true, AV.bool (bif vev80_0 a 1 2147483647 then bif bif true then vev80_0 b 0 7 else false then bif bif true then vev80_0 c 1 1099511627776 else false then bif true then vev80_0 d 0 2000 else false else false else false else false), []) else none) (by kernel_rfl) ?_
 unfold vev84_0
 generalize (vev80_0 c 1 1099511627776) = c0
 generalize (vev80_0 a 1 2147483647) = c1
 generalize (vev80_0 b 0 7) = c2
 cases c1; rfl; cases c2; rfl; cases c0; rfl; rfl
noncomputable def sp84 : Sp
 | [.agg [.int .i64 a, .int .i64 b, .int .i64 c, .int .i64 d]], [] => spW (true) (some ((true, AV.bool (vev84_0 a b c d), [])))
 | _, _ => none
noncomputable def k84 : Gam := spG 84 sp84 k80
theorem k84_ok : GamOK Try.prog k84 := spG_ok k80_ok fun T C r outs hs => by
   unfold sp84 at hs
   split at hs
   ·rename_i a b c d
    obtain ⟨hb, rfl, rfl⟩ := spT_inv hs
    have he := ev84 a b c d
    obtain ⟨r0, o0, h0, he⟩ := evFin_inv he
    obtain ⟨h1, h2⟩ := fn_ok mixed plain (gk_ok k80_ok 30) Try.func84 (fun c _ => LoopsOK.none (fun _ _ => rfl) c) h0
    exact ⟨h1, h2.fin he⟩
   ·cases hs
theorem ev106 (a b c d : Int) : eF k84 noLsp 106 Try.f106 [.agg [iA a, iA b, iA c, iA d]] [] = some (true, AV.bool !vev84_0 a b c d, []) := by kernel_rfl
noncomputable def sp106 : Sp
 | [.agg [.int .i64 a, .int .i64 b, .int .i64 c, .int .i64 d]], [] => spW (true) (some ((true, AV.bool !vev84_0 a b c d, [])))
 | _, _ => none
noncomputable def k106 : Gam := spG 106 sp106 k84
theorem k106_ok : GamOK Try.prog k106 := spG_ok k84_ok fun T C r outs hs => by
   unfold sp106 at hs
   split at hs
   ·rename_i a b c d
    obtain ⟨hb, rfl, rfl⟩ := spT_inv hs
    have he := ev106 a b c d
    obtain ⟨r0, o0, h0, he⟩ := evFin_inv he
    obtain ⟨h1, h2⟩ := fn_ok mixed plain (gk_ok k84_ok 30) Try.func106 (fun c _ => LoopsOK.none (fun _ _ => rfl) c) h0
    exact ⟨h1, h2.fin he⟩
   ·cases hs
noncomputable def vev108_0 (a b c d id : Int) : Bool := a == id
theorem ev108 (a b c d id : Int) : eF k106 noLsp 108 Try.f108 [.agg [iA a, iA b, iA c, iA d], .hp 0 0] [.var [iA id]] = some (true, AV.bool (vev108_0 a b c d id), [Blk.var [iA id]]) := by kernel_rfl
noncomputable def sp108 : Sp
 | [.agg [.int .i64 a, .int .i64 b, .int .i64 c, .int .i64 d], .hp 0 0], [.var [.int .i64 id]] => spW (true) (some ((true, AV.bool (vev108_0 a b c d id), [Blk.var [iA id]])))
 | _, _ => none
noncomputable def k108 : Gam := spG 108 sp108 k106
theorem k108_ok : GamOK Try.prog k108 := spG_ok k106_ok fun T C r outs hs => by
   unfold sp108 at hs
   split at hs
   ·rename_i a b c d id
    obtain ⟨hb, rfl, rfl⟩ := spT_inv hs
    have he := ev108 a b c d id
    obtain ⟨r0, o0, h0, he⟩ := evFin_inv he
    obtain ⟨h1, h2⟩ := fn_ok mixed plain (gk_ok k106_ok 30) Try.func108 (fun c _ => LoopsOK.none (fun _ _ => rfl) c) h0
    exact ⟨h1, h2.fin he⟩
   ·cases hs
noncomputable def vev115_0 (a b c d l : Int) (tk : Tk) (es : LL) : Bool := decide (d ≥ l)
theorem ev115 (a b c d l : Int) (tk : Tk) (es : LL) : eF k108 noLsp 115 Try.f115 [.agg [iA a, iA b, iA c, iA d], .hp 0 0] [.var [iA l, .sl tk kI4 es]] = some (true, AV.bool (vev115_0 a b c d l tk es), [Blk.var [iA l, AV.sl tk kI4 es]]) := by kernel_rfl
noncomputable def sp115 : Sp
 | [.agg [.int .i64 a, .int .i64 b, .int .i64 c, .int .i64 d], .hp 0 0], [.var [.int .i64 l, .sl tk [.int .i64, .int .i64, .int .i64, .int .i64] es]] => spW (true) (some ((true, AV.bool (vev115_0 a b c d l tk es), [Blk.var [iA l, AV.sl tk kI4 es]])))
 | _, _ => none
noncomputable def k115 : Gam := spG 115 sp115 k108
theorem k115_ok : GamOK Try.prog k115 := spG_ok k108_ok fun T C r outs hs => by
   unfold sp115 at hs
   split at hs
   ·rename_i a b c d l tk es
    obtain ⟨hb, rfl, rfl⟩ := spT_inv hs
    have he := ev115 a b c d l tk es
    obtain ⟨r0, o0, h0, he⟩ := evFin_inv he
    obtain ⟨h1, h2⟩ := fn_ok mixed plain (gk_ok k108_ok 30) Try.func115 (fun c _ => LoopsOK.none (fun _ _ => rfl) c) h0
    exact ⟨h1, h2.fin he⟩
   ·cases hs
noncomputable def vev117_0 (a b c d a2 b2 c2 d2 : Int) : Int := IntKind.i64.wrap (b - b2)
theorem ev117 (a b c d a2 b2 c2 d2 : Int) : eF k115 noLsp 117 Try.f117 [.agg [iA a, iA b, iA c, iA d], .agg [iA a2, iA b2, iA c2, iA d2]] [] = some (true, iA (vev117_0 a b c d a2 b2 c2 d2), []) := by kernel_rfl
noncomputable def sp117 : Sp
 | [.agg [.int .i64 a, .int .i64 b, .int .i64 c, .int .i64 d], .agg [.int .i64 a2, .int .i64 b2, .int .i64 c2, .int .i64 d2]], [] => spW (true) (some ((true, iA (vev117_0 a b c d a2 b2 c2 d2), [])))
 | _, _ => none
noncomputable def k117 : Gam := spG 117 sp117 k115
theorem k117_ok : GamOK Try.prog k117 := spG_ok k115_ok fun T C r outs hs => by
   unfold sp117 at hs
   split at hs
   ·rename_i a b c d a2 b2 c2 d2
    obtain ⟨hb, rfl, rfl⟩ := spT_inv hs
    have he := ev117 a b c d a2 b2 c2 d2
    obtain ⟨r0, o0, h0, he⟩ := evFin_inv he
    obtain ⟨h1, h2⟩ := fn_ok mixed plain (gk_ok k115_ok 30) Try.func117 (fun c _ => LoopsOK.none (fun _ _ => rfl) c) h0
    exact ⟨h1, h2.fin he⟩
   ·cases hs
noncomputable def go107a_2 (d : Tk) (a : LL) (b c e : Int) : Bool := bif decide (c < b) then bif decide (0 ≤ c) && decide (c < (↑a.length : Int)) then bif vev108_0 (intOf ((a.getD c.toNat []).getD 0 AV.junk)) (intOf ((a.getD c.toNat []).getD (0 + 1) AV.junk)) (intOf ((a.getD c.toNat []).getD (0 + 1 + 1) AV.junk)) (intOf ((a.getD c.toNat []).getD (0 + 1 + 1 + 1) AV.junk)) e then false else true else false else false
noncomputable def nx107a_2_3 (d : Tk) (a : LL) (b c e : Int) : Int := IntKind.i64.wrap (c + 1)
noncomputable def xc107a_2_0 (d : Tk) (a : LL) (b c e : Int) : Bool := bif decide (c < b) then bif decide (0 ≤ c) && decide (c < (↑a.length : Int)) then vev108_0 (intOf ((a.getD c.toNat []).getD 0 AV.junk)) (intOf ((a.getD c.toNat []).getD (0 + 1) AV.junk)) (intOf ((a.getD c.toNat []).getD (0 + 1 + 1) AV.junk)) (intOf ((a.getD c.toNat []).getD (0 + 1 + 1 + 1) AV.junk)) e else false else false
noncomputable def xc107a_2_1 (d : Tk) (a : LL) (b c e : Int) : Bool := bif decide (c < b) then false else true
theorem rd107a_2 (rest : Lsp) (d : Tk) (a : LL) (b c e : Int) : rV k117 rest 107 1 Try.f107 2 [0, 1, 7, 8] [0] [4] [0] [AV.sl d kI4 a, AV.fn 108 [AV.hp 0 0], iA b, iA c] [Blk.var [iA e]] = bif go107a_2 d a b c e then some (Ex.norm, [AV.sl d kI4 a, AV.fn 108 [AV.hp 0 0], iA b, iA (nx107a_2_3 d a b c e)], [Blk.var [iA e]]) else bif xc107a_2_0 d a b c e then some (Ex.ret, [iA c], [Blk.var [iA e]]) else bif xc107a_2_1 d a b c e then some (Ex.exit 0, [AV.junk], [Blk.var [iA e]]) else none := by
 refine Eq.trans (b := bif decide (c < b) then bif decide (0 ≤ c) && decide (c < (↑a.length : Int)) then bif vev108_0 (intOf ((a.getD c.toNat []).getD 0 AV.junk)) (intOf ((a.getD c.toNat []).getD (0 + 1) AV.junk)) (intOf ((a.getD c.toNat []).getD (0 + 1 + 1) AV.junk)) (intOf ((a.getD c.toNat []).getD (0 + 1 + 1 + 1) AV.junk)) e then some (Ex.ret, [iA c], [Blk.var [iA e]]) else some (Ex.norm, [AV.sl d kI4 a, AV.fn 108 [AV.hp 0 0], iA b, iA (IntKind.i64.wrap (c + 1))], [Blk.var [iA e]]) else none else some (Ex.exit 0, [AV.junk], [Blk.var [iA e]])) (by kernel_rfl) ?_
 unfold go107a_2 nx107a_2_3 xc107a_2_0 xc107a_2_1
 generalize (vev108_0 _ _ _ _ _) = c0
 generalize (decide (0 ≤ c) && decide (c < (↑a.length : Int))) = c1
 generalize (decide (c < b)) = c2
 cases c2; rfl; cases c1; rfl; cases c0; rfl; rfl
abbrev pl107a_2 : Type := Tk × LL × Int × Int
abbrev sl107a_2 : Type := Int
noncomputable def vt107a_2 (a : pl107a_2 × sl107a_2) : List AV := [AV.sl a.1.1 kI4 a.1.2.1, AV.fn 108 [AV.hp 0 0], iA a.1.2.2.1, iA a.2]
noncomputable def vc107a_2 (a : pl107a_2 × sl107a_2) : List Blk := [Blk.var [iA a.1.2.2.2]]
noncomputable def de107a_2 (vt : List AV) (vc : List Blk) : Option (pl107a_2 × sl107a_2) :=
 match vt with
 | [qa0, qa1, qa2, qa3] => (match vc with
 | [qb0] => (match qa0 with
 | .sl t0k [.int .i64, .int .i64, .int .i64, .int .i64] t0 => (match qa1 with
 | AV.fn (108) [AV.hp (0) (0)] => (match qa2 with
 | .int .i64 t7 => (match qa3 with
 | .int .i64 t8 => (match qb0 with
 | .var [.int .i64 b0_0] => (some ((t0k, t0, t7, b0_0), t8))
 | _ => none)
 | _ => none)
 | _ => none)
 | _ => none)
 | _ => none)
 | _ => none)
 | _ => none
theorem de107a_2_ok (vt : List AV) (vc : List Blk) (a : pl107a_2 × sl107a_2) (h : de107a_2 vt vc = some a) : vt = vt107a_2 a ∧ vc = vc107a_2 a := by
 unfold de107a_2 at h
 iterate 7 (split at h; rotate_left; · cases h)
 injection h with h; subst h; exact ⟨rfl, rfl⟩
noncomputable def g107a_2 (p : pl107a_2) (s : sl107a_2) : Bool := go107a_2 p.1 p.2.1 p.2.2.1 s p.2.2.2
noncomputable def n107a_2 (p : pl107a_2) (s : sl107a_2) : sl107a_2 := nx107a_2_3 p.1 p.2.1 p.2.2.1 s p.2.2.2
noncomputable def y107a_2 (p : pl107a_2) (s : sl107a_2) : List (Bool × Out) := [(xc107a_2_0 p.1 p.2.1 p.2.2.1 s p.2.2.2, (Ex.ret, [iA s], [Blk.var [iA p.2.2.2]]))]
noncomputable def z107a_2 (p : pl107a_2) (s : sl107a_2) : Bool := xc107a_2_1 p.1 p.2.1 p.2.2.1 s p.2.2.2
noncomputable def d107a_2 (p : pl107a_2) (s : sl107a_2) : Out := (Ex.exit 0, [AV.junk], [Blk.var [iA p.2.2.2]])
noncomputable def ls107a_2 := lspOf [0, 1, 7, 8] [0] [4] [0] Try.f107.ntmps (1 + tab.nid 107) de107a_2 (spI g107a_2 n107a_2 y107a_2 z107a_2 d107a_2)
theorem lo107a_2 (rest : Lsp) : lO k117 (selL 2 ls107a_2 rest) 107 1 Try.f107 2 := LoopOK1.iter (i := 2) (by kernel_rfl) [0, 1, 7, 8] [0] [4] [0] vt107a_2 vc107a_2 de107a_2 g107a_2 n107a_2 y107a_2 z107a_2 d107a_2 (fun _ => rfl) de107a_2_ok (fun p s => rd107a_2 (selL 2 ls107a_2 rest) (p.1) (p.2.1) (p.2.2.1) s (p.2.2.2)) (fun _ _ => rfl)
noncomputable def lsp107a : Lsp := (selL 2 ls107a_2 noLsp)
theorem loops107a : ∀ c, Try.f107.body = some c → lsO k117 lsp107a 107 1 Try.f107 c := loops_of [2] (by kernel_rfl) (by kernel_rfl) (fun i hi => by simp only [List.mem_cons, List.not_mem_nil, or_false] at hi; subst hi; exact lo107a_2 noLsp)
noncomputable def rev107a_0 (tk : Tk) (es : LL) (id : Int) : sl107a_2 := finL (g107a_2 (tk, es, (↑es.length : Int), id)) (n107a_2 (tk, es, (↑es.length : Int), id)) 0
noncomputable def vev107a_0 (tk : Tk) (es : LL) (id : Int) : sl107a_2 := bif xc107a_2_0 tk es (↑es.length : Int) (rev107a_0 tk es id) id then rev107a_0 tk es id else (-1)
noncomputable def vev107a_1 (tk : Tk) (es : LL) (id : Int) : Bool := bif (spI g107a_2 n107a_2 y107a_2 z107a_2 d107a_2 ((tk, es, (↑es.length : Int), id), 0)).fst then true else false
theorem ev107a (tk : Tk) (es : LL) (id : Int) : eF k117 lsp107a 107 Try.f107 [.sl tk kI4 es, .fn 108 [.hp 0 0]] [.var [iA id]] = bif vev107a_1 tk es id then some (true, iA (vev107a_0 tk es id), [Blk.var [iA id]]) else none := by
 refine Eq.trans (b := bif (spI g107a_2 n107a_2 y107a_2 z107a_2 d107a_2 ((tk, es, (↑es.length : Int), id), 0)).fst then bif xc107a_2_0 tk es (↑es.length : Int) (rev107a_0 tk es id) id then some (true, iA (rev107a_0 tk es id), [Blk.var [iA id]]) else some (true, iA (-1), [Blk.var [iA id]]) else none) (by kernel_rfl) ?_
 unfold vev107a_0 vev107a_1
 generalize (spI g107a_2 _ _ _ _ _).fst = c0
 generalize (xc107a_2_0 _ _ _ _ _) = c1
 cases c0; rfl; cases c1; rfl; rfl
noncomputable def sp107a : Sp
 | [.sl tk [.int .i64, .int .i64, .int .i64, .int .i64] es, .fn 108 [.hp 0 0]], [.var [.int .i64 id]] => spW (vev107a_1 tk es id) (some ((true, iA (vev107a_0 tk es id), [Blk.var [iA id]])))
 | _, _ => none
noncomputable def k107a : Gam := spG 107 sp107a k117
theorem k107a_ok : GamOK Try.prog k107a := spG_ok k117_ok fun T C r outs hs => by
   unfold sp107a at hs
   split at hs
   ·exact okE k117_ok Try.func107 loops107a (ev107a _ _ _) hs
   ·cases hs
noncomputable def go107b_2 (d : Tk) (a : LL) (b c e : Int) (g : Tk) (f : LL) : Bool := bif decide (c < b) then bif decide (0 ≤ c) && decide (c < (↑a.length : Int)) then bif vev115_0 (intOf ((a.getD c.toNat []).getD 0 AV.junk)) (intOf ((a.getD c.toNat []).getD (0 + 1) AV.junk)) (intOf ((a.getD c.toNat []).getD (0 + 1 + 1) AV.junk)) (intOf ((a.getD c.toNat []).getD (0 + 1 + 1 + 1) AV.junk)) e g f then false else true else false else false
noncomputable def nx107b_2_3 (d : Tk) (a : LL) (b c e : Int) (g : Tk) (f : LL) : Int := IntKind.i64.wrap (c + 1)
noncomputable def xc107b_2_0 (d : Tk) (a : LL) (b c e : Int) (g : Tk) (f : LL) : Bool := bif decide (c < b) then bif decide (0 ≤ c) && decide (c < (↑a.length : Int)) then vev115_0 (intOf ((a.getD c.toNat []).getD 0 AV.junk)) (intOf ((a.getD c.toNat []).getD (0 + 1) AV.junk)) (intOf ((a.getD c.toNat []).getD (0 + 1 + 1) AV.junk)) (intOf ((a.getD c.toNat []).getD (0 + 1 + 1 + 1) AV.junk)) e g f else false else false
noncomputable def xc107b_2_1 (d : Tk) (a : LL) (b c e : Int) (g : Tk) (f : LL) : Bool := bif decide (c < b) then false else true
theorem rd107b_2 (rest : Lsp) (d : Tk) (a : LL) (b c e : Int) (g : Tk) (f : LL) : rV k107a rest 107 1 Try.f107 2 [0, 1, 7, 8] [0] [4] [0] [AV.sl d kI4 a, AV.fn 115 [AV.hp 0 0], iA b, iA c] [Blk.var [iA e, AV.sl g kI4 f]] = bif go107b_2 d a b c e g f then some (Ex.norm, [AV.sl d kI4 a, AV.fn 115 [AV.hp 0 0], iA b, iA (nx107b_2_3 d a b c e g f)], [Blk.var [iA e, AV.sl g kI4 f]]) else bif xc107b_2_0 d a b c e g f then some (Ex.ret, [iA c], [Blk.var [iA e, AV.sl g kI4 f]]) else bif xc107b_2_1 d a b c e g f then some (Ex.exit 0, [AV.junk], [Blk.var [iA e, AV.sl g kI4 f]]) else none := by
 refine Eq.trans (b := bif decide (c < b) then bif decide (0 ≤ c) && decide (c < (↑a.length : Int)) then bif vev115_0 (intOf ((a.getD c.toNat []).getD 0 AV.junk)) (intOf ((a.getD c.toNat []).getD (0 + 1) AV.junk)) (intOf ((a.getD c.toNat []).getD (0 + 1 + 1) AV.junk)) (intOf ((a.getD c.toNat []).getD (0 + 1 + 1 + 1) AV.junk)) e g f then some (Ex.ret, [iA c], [Blk.var [iA e, AV.sl g kI4 f]]) else some (Ex.norm, [AV.sl d kI4 a, AV.fn 115 [AV.hp 0 0], iA b, iA (IntKind.i64.wrap (c + 1))], [Blk.var [iA e, AV.sl g kI4 f]]) else none else some (Ex.exit 0, [AV.junk], [Blk.var [iA e, AV.sl g kI4 f]])) (by kernel_rfl) ?_
 unfold go107b_2 nx107b_2_3 xc107b_2_0 xc107b_2_1
 generalize (vev115_0 _ _ _ _ _ _ _) = c0
 generalize (decide (0 ≤ c) && decide (c < (↑a.length : Int))) = c1
 generalize (decide (c < b)) = c2
 cases c2; rfl; cases c1; rfl; cases c0; rfl; rfl
abbrev pl107b_2 : Type := Tk × LL × Int × Int × Tk × LL
abbrev sl107b_2 : Type := Int
noncomputable def vt107b_2 (a : pl107b_2 × sl107b_2) : List AV := [AV.sl a.1.1 kI4 a.1.2.1, AV.fn 115 [AV.hp 0 0], iA a.1.2.2.1, iA a.2]
noncomputable def vc107b_2 (a : pl107b_2 × sl107b_2) : List Blk := [Blk.var [iA a.1.2.2.2.1, AV.sl a.1.2.2.2.2.1 kI4 a.1.2.2.2.2.2]]
noncomputable def de107b_2 (vt : List AV) (vc : List Blk) : Option (pl107b_2 × sl107b_2) :=
 match vt with
 | [qa0, qa1, qa2, qa3] => (match vc with
 | [qb0] => (match qa0 with
 | .sl t0k [.int .i64, .int .i64, .int .i64, .int .i64] t0 => (match qa1 with
 | AV.fn (115) [AV.hp (0) (0)] => (match qa2 with
 | .int .i64 t7 => (match qa3 with
 | .int .i64 t8 => (match qb0 with
 | .var [.int .i64 b0_0, .sl b0_1k [.int .i64, .int .i64, .int .i64, .int .i64] b0_1] => (some ((t0k, t0, t7, b0_0, b0_1k, b0_1), t8))
 | _ => none)
 | _ => none)
 | _ => none)
 | _ => none)
 | _ => none)
 | _ => none)
 | _ => none
theorem de107b_2_ok (vt : List AV) (vc : List Blk) (a : pl107b_2 × sl107b_2) (h : de107b_2 vt vc = some a) : vt = vt107b_2 a ∧ vc = vc107b_2 a := by
 unfold de107b_2 at h
 iterate 7 (split at h; rotate_left; · cases h)
 injection h with h; subst h; exact ⟨rfl, rfl⟩
noncomputable def g107b_2 (p : pl107b_2) (s : sl107b_2) : Bool := go107b_2 p.1 p.2.1 p.2.2.1 s p.2.2.2.1 p.2.2.2.2.1 p.2.2.2.2.2
noncomputable def n107b_2 (p : pl107b_2) (s : sl107b_2) : sl107b_2 := nx107b_2_3 p.1 p.2.1 p.2.2.1 s p.2.2.2.1 p.2.2.2.2.1 p.2.2.2.2.2
noncomputable def y107b_2 (p : pl107b_2) (s : sl107b_2) : List (Bool × Out) := [(xc107b_2_0 p.1 p.2.1 p.2.2.1 s p.2.2.2.1 p.2.2.2.2.1 p.2.2.2.2.2, (Ex.ret, [iA s], [Blk.var [iA p.2.2.2.1, AV.sl p.2.2.2.2.1 kI4 p.2.2.2.2.2]]))]
noncomputable def z107b_2 (p : pl107b_2) (s : sl107b_2) : Bool := xc107b_2_1 p.1 p.2.1 p.2.2.1 s p.2.2.2.1 p.2.2.2.2.1 p.2.2.2.2.2
noncomputable def d107b_2 (p : pl107b_2) (s : sl107b_2) : Out := (Ex.exit 0, [AV.junk], [Blk.var [iA p.2.2.2.1, AV.sl p.2.2.2.2.1 kI4 p.2.2.2.2.2]])
noncomputable def ls107b_2 := lspOf [0, 1, 7, 8] [0] [4] [0] Try.f107.ntmps (1 + tab.nid 107) de107b_2 (spI g107b_2 n107b_2 y107b_2 z107b_2 d107b_2)
theorem lo107b_2 (rest : Lsp) : lO k107a (selL 2 ls107b_2 rest) 107 1 Try.f107 2 := LoopOK1.iter (i := 2) (by kernel_rfl) [0, 1, 7, 8] [0] [4] [0] vt107b_2 vc107b_2 de107b_2 g107b_2 n107b_2 y107b_2 z107b_2 d107b_2 (fun _ => rfl) de107b_2_ok (fun p s => rd107b_2 (selL 2 ls107b_2 rest) (p.1) (p.2.1) (p.2.2.1) s (p.2.2.2.1) (p.2.2.2.2.1) (p.2.2.2.2.2)) (fun _ _ => rfl)
noncomputable def lsp107b : Lsp := (selL 2 ls107b_2 noLsp)
theorem loops107b : ∀ c, Try.f107.body = some c → lsO k107a lsp107b 107 1 Try.f107 c := loops_of [2] (by kernel_rfl) (by kernel_rfl) (fun i hi => by simp only [List.mem_cons, List.not_mem_nil, or_false] at hi; subst hi; exact lo107b_2 noLsp)
noncomputable def rev107b_0 (tk : Tk) (es : LL) (l : Int) (tk2 : Tk) (es2 : LL) : sl107b_2 := finL (g107b_2 (tk, es, (↑es.length : Int), l, tk2, es2)) (n107b_2 (tk, es, (↑es.length : Int), l, tk2, es2)) 0
noncomputable def vev107b_0 (tk : Tk) (es : LL) (l : Int) (tk2 : Tk) (es2 : LL) : sl107b_2 := bif xc107b_2_0 tk es (↑es.length : Int) (rev107b_0 tk es l tk2 es2) l tk2 es2 then rev107b_0 tk es l tk2 es2 else (-1)
noncomputable def vev107b_1 (tk : Tk) (es : LL) (l : Int) (tk2 : Tk) (es2 : LL) : Bool := bif (spI g107b_2 n107b_2 y107b_2 z107b_2 d107b_2 ((tk, es, (↑es.length : Int), l, tk2, es2), 0)).fst then true else false
theorem ev107b (tk : Tk) (es : LL) (l : Int) (tk2 : Tk) (es2 : LL) : eF k107a lsp107b 107 Try.f107 [.sl tk kI4 es, .fn 115 [.hp 0 0]] [.var [iA l, .sl tk2 kI4 es2]] = bif vev107b_1 tk es l tk2 es2 then some (true, iA (vev107b_0 tk es l tk2 es2), [Blk.var [iA l, AV.sl tk2 kI4 es2]]) else none := by
 refine Eq.trans (b := bif (spI g107b_2 n107b_2 y107b_2 z107b_2 d107b_2 ((tk, es, (↑es.length : Int), l, tk2, es2), 0)).fst then bif xc107b_2_0 tk es (↑es.length : Int) (rev107b_0 tk es l tk2 es2) l tk2 es2 then some (true, iA (rev107b_0 tk es l tk2 es2), [Blk.var [iA l, AV.sl tk2 kI4 es2]]) else some (true, iA (-1), [Blk.var [iA l, AV.sl tk2 kI4 es2]]) else none) (by kernel_rfl) ?_
 unfold vev107b_0 vev107b_1
 generalize (spI g107b_2 _ _ _ _ _).fst = c0
 generalize (xc107b_2_0 _ _ _ _ _ _ _) = c1
 cases c0; rfl; cases c1; rfl; rfl
noncomputable def sp107b : Sp
 | [.sl tk [.int .i64, .int .i64, .int .i64, .int .i64] es, .fn 115 [.hp 0 0]], [.var [.int .i64 l, .sl tk2 [.int .i64, .int .i64, .int .i64, .int .i64] es2]] => spW (vev107b_1 tk es l tk2 es2) (some ((true, iA (vev107b_0 tk es l tk2 es2), [Blk.var [iA l, AV.sl tk2 kI4 es2]])))
 | _, _ => none
noncomputable def k107b : Gam := spG 107 sp107b k107a
theorem k107b_ok : GamOK Try.prog k107b := spG_ok k107a_ok fun T C r outs hs => by
   unfold sp107b at hs
   split at hs
   ·exact okE k107a_ok Try.func107 loops107b (ev107b _ _ _ _ _) hs
   ·cases hs
noncomputable def go107c_2 (d : Tk) (a : LL) (b c : Int) : Bool := bif decide (c < b) then bif decide (0 ≤ c) && decide (c < (↑a.length : Int)) then bif !vev84_0 (intOf ((a.getD c.toNat []).getD 0 AV.junk)) (intOf ((a.getD c.toNat []).getD (0 + 1) AV.junk)) (intOf ((a.getD c.toNat []).getD (0 + 1 + 1) AV.junk)) (intOf ((a.getD c.toNat []).getD (0 + 1 + 1 + 1) AV.junk)) then false else true else false else false
noncomputable def nx107c_2_3 (d : Tk) (a : LL) (b c : Int) : Int := IntKind.i64.wrap (c + 1)
noncomputable def xc107c_2_0 (d : Tk) (a : LL) (b c : Int) : Bool := bif decide (c < b) then bif decide (0 ≤ c) && decide (c < (↑a.length : Int)) then !vev84_0 (intOf ((a.getD c.toNat []).getD 0 AV.junk)) (intOf ((a.getD c.toNat []).getD (0 + 1) AV.junk)) (intOf ((a.getD c.toNat []).getD (0 + 1 + 1) AV.junk)) (intOf ((a.getD c.toNat []).getD (0 + 1 + 1 + 1) AV.junk)) else false else false
noncomputable def xc107c_2_1 (d : Tk) (a : LL) (b c : Int) : Bool := bif decide (c < b) then false else true
theorem rd107c_2 (rest : Lsp) (d : Tk) (a : LL) (b c : Int) : rV k107b rest 107 0 Try.f107 2 [0, 1, 7, 8] [] [4] [] [AV.sl d kI4 a, AV.fn 106 [], iA b, iA c] [] = bif go107c_2 d a b c then some (Ex.norm, [AV.sl d kI4 a, AV.fn 106 [], iA b, iA (nx107c_2_3 d a b c)], []) else bif xc107c_2_0 d a b c then some (Ex.ret, [iA c], []) else bif xc107c_2_1 d a b c then some (Ex.exit 0, [AV.junk], []) else none := by
 refine Eq.trans (b := bif decide (c < b) then bif decide (0 ≤ c) && decide (c < (↑a.length : Int)) then bif !vev84_0 (intOf ((a.getD c.toNat []).getD 0 AV.junk)) (intOf ((a.getD c.toNat []).getD (0 + 1) AV.junk)) (intOf ((a.getD c.toNat []).getD (0 + 1 + 1) AV.junk)) (intOf ((a.getD c.toNat []).getD (0 + 1 + 1 + 1) AV.junk)) then some (Ex.ret, [iA c], []) else some (Ex.norm, [AV.sl d kI4 a, AV.fn 106 [], iA b, iA (IntKind.i64.wrap (c + 1))], []) else none else some (Ex.exit 0, [AV.junk], [])) (by kernel_rfl) ?_
 unfold go107c_2 nx107c_2_3 xc107c_2_0 xc107c_2_1
 generalize (!vev84_0 _ _ _ _) = c0
 generalize (decide (0 ≤ c) && decide (c < (↑a.length : Int))) = c1
 generalize (decide (c < b)) = c2
 cases c2; rfl; cases c1; rfl; cases c0; rfl; rfl
abbrev pl107c_2 : Type := Tk × LL × Int
abbrev sl107c_2 : Type := Int
noncomputable def vt107c_2 (a : pl107c_2 × sl107c_2) : List AV := [AV.sl a.1.1 kI4 a.1.2.1, AV.fn 106 [], iA a.1.2.2, iA a.2]
noncomputable def vc107c_2 (a : pl107c_2 × sl107c_2) : List Blk := []
noncomputable def de107c_2 (vt : List AV) (vc : List Blk) : Option (pl107c_2 × sl107c_2) :=
 match vt with
 | [qa0, qa1, qa2, qa3] => (match vc with
 | [] => (match qa0 with
 | .sl t0k [.int .i64, .int .i64, .int .i64, .int .i64] t0 => (match qa1 with
 | AV.fn (106) [] => (match qa2 with
 | .int .i64 t7 => (match qa3 with
 | .int .i64 t8 => (some ((t0k, t0, t7), t8))
 | _ => none)
 | _ => none)
 | _ => none)
 | _ => none)
 | _ => none)
 | _ => none
theorem de107c_2_ok (vt : List AV) (vc : List Blk) (a : pl107c_2 × sl107c_2) (h : de107c_2 vt vc = some a) : vt = vt107c_2 a ∧ vc = vc107c_2 a := by
 unfold de107c_2 at h
 iterate 6 (split at h; rotate_left; · cases h)
 injection h with h; subst h; exact ⟨rfl, rfl⟩
noncomputable def g107c_2 (p : pl107c_2) (s : sl107c_2) : Bool := go107c_2 p.1 p.2.1 p.2.2 s
noncomputable def n107c_2 (p : pl107c_2) (s : sl107c_2) : sl107c_2 := nx107c_2_3 p.1 p.2.1 p.2.2 s
noncomputable def y107c_2 (p : pl107c_2) (s : sl107c_2) : List (Bool × Out) := [(xc107c_2_0 p.1 p.2.1 p.2.2 s, (Ex.ret, [iA s], []))]
noncomputable def z107c_2 (p : pl107c_2) (s : sl107c_2) : Bool := xc107c_2_1 p.1 p.2.1 p.2.2 s
noncomputable def d107c_2 (p : pl107c_2) (s : sl107c_2) : Out := (Ex.exit 0, [AV.junk], [])
noncomputable def ls107c_2 := lspOf [0, 1, 7, 8] [] [4] [] Try.f107.ntmps (0 + tab.nid 107) de107c_2 (spI g107c_2 n107c_2 y107c_2 z107c_2 d107c_2)
theorem lo107c_2 (rest : Lsp) : lO k107b (selL 2 ls107c_2 rest) 107 0 Try.f107 2 := LoopOK1.iter (i := 2) (by kernel_rfl) [0, 1, 7, 8] [] [4] [] vt107c_2 vc107c_2 de107c_2 g107c_2 n107c_2 y107c_2 z107c_2 d107c_2 (fun _ => rfl) de107c_2_ok (fun p s => rd107c_2 (selL 2 ls107c_2 rest) (p.1) (p.2.1) (p.2.2) s) (fun _ _ => rfl)
noncomputable def lsp107c : Lsp := (selL 2 ls107c_2 noLsp)
theorem loops107c : ∀ c, Try.f107.body = some c → lsO k107b lsp107c 107 0 Try.f107 c := loops_of [2] (by kernel_rfl) (by kernel_rfl) (fun i hi => by simp only [List.mem_cons, List.not_mem_nil, or_false] at hi; subst hi; exact lo107c_2 noLsp)
noncomputable def rev107c_0 (tk : Tk) (es : LL) : sl107c_2 := finL (g107c_2 (tk, es, (↑es.length : Int))) (n107c_2 (tk, es, (↑es.length : Int))) 0
noncomputable def vev107c_0 (tk : Tk) (es : LL) : sl107c_2 := bif xc107c_2_0 tk es (↑es.length : Int) (rev107c_0 tk es) then rev107c_0 tk es else (-1)
noncomputable def vev107c_1 (tk : Tk) (es : LL) : Bool := bif (spI g107c_2 n107c_2 y107c_2 z107c_2 d107c_2 ((tk, es, (↑es.length : Int)), 0)).fst then true else false
theorem ev107c (tk : Tk) (es : LL) : eF k107b lsp107c 107 Try.f107 [.sl tk kI4 es, .fn 106 []] [] = bif vev107c_1 tk es then some (true, iA (vev107c_0 tk es), []) else none := by
 refine Eq.trans (b := bif (spI g107c_2 n107c_2 y107c_2 z107c_2 d107c_2 ((tk, es, (↑es.length : Int)), 0)).fst then bif xc107c_2_0 tk es (↑es.length : Int) (rev107c_0 tk es) then some (true, iA (rev107c_0 tk es), []) else some (true, iA (-1), []) else none) (by kernel_rfl) ?_
 unfold vev107c_0 vev107c_1
 generalize (spI g107c_2 _ _ _ _ _).fst = c0
 generalize (xc107c_2_0 _ _ _ _) = c1
 cases c0; rfl; cases c1; rfl; rfl
noncomputable def sp107c : Sp
 | [.sl tk [.int .i64, .int .i64, .int .i64, .int .i64] es, .fn 106 []], [] => spW (vev107c_1 tk es) (some ((true, iA (vev107c_0 tk es), [])))
 | _, _ => none
noncomputable def k107c : Gam := spG 107 sp107c k107b
theorem k107c_ok : GamOK Try.prog k107c := spG_ok k107b_ok fun T C r outs hs => by
   unfold sp107c at hs
   split at hs
   ·exact okE k107b_ok Try.func107 loops107c (ev107c _ _) hs
   ·cases hs
noncomputable def vev105_0 (tk : Tk) (es : LL) : Bool := decide (vev107c_0 tk es ≥ 0)
noncomputable def vev105_1 (tk : Tk) (es : LL) : Bool := bif vev107c_1 tk es then true else false
theorem ev105 (tk : Tk) (es : LL) : eF k107c noLsp 105 Try.f105 [.sl tk kI4 es, .fn 106 []] [] = bif vev105_1 tk es then some (true, AV.bool (vev105_0 tk es), []) else none := by
 refine Eq.trans (b := bif vev107c_1 tk es then some (true, AV.bool (decide (vev107c_0 tk es ≥ 0)), []) else none) (by kernel_rfl) ?_
 unfold vev105_0 vev105_1
 generalize (vev107c_1 _ _) = c0
 cases c0
 ·skip
  rfl
 ·skip
  rfl
noncomputable def sp105 : Sp
 | [.sl tk [.int .i64, .int .i64, .int .i64, .int .i64] es, .fn 106 []], [] => spW (vev105_1 tk es) (some ((true, AV.bool (vev105_0 tk es), [])))
 | _, _ => none
noncomputable def k105 : Gam := spG 105 sp105 k107c
theorem k105_ok : GamOK Try.prog k105 := spG_ok k107c_ok fun T C r outs hs => by
   unfold sp105 at hs
   split at hs
   ·exact okE k107c_ok Try.func105 (fun c _ => LoopsOK.none (fun _ _ => rfl) c) (ev105 _ _) hs
   ·cases hs
noncomputable def rn116_5_0 (c : Tk) (a : LL) (b d e f g h i j k : Int) : Int := intOf ((a.getD b.toNat []).getD 0 AV.junk)
noncomputable def rn116_5_1 (c : Tk) (a : LL) (b d e f g h i j k : Int) : Int := intOf ((a.getD b.toNat []).getD (0 + 1) AV.junk)
noncomputable def rn116_5_2 (c : Tk) (a : LL) (b d e f g h i j k : Int) : Int := intOf ((a.getD b.toNat []).getD (0 + 1 + 1) AV.junk)
noncomputable def rn116_5_3 (c : Tk) (a : LL) (b d e f g h i j k : Int) : Int := intOf ((a.getD b.toNat []).getD (0 + 1 + 1 + 1) AV.junk)
noncomputable def rn116_5_4 (c : Tk) (a : LL) (b d e f g h i j k : Int) : Int := vev117_0 (rn116_5_0 c a b d e f g h i j k) (rn116_5_1 c a b d e f g h i j k) (rn116_5_2 c a b d e f g h i j k) (rn116_5_3 c a b d e f g h i j k) d e f g
noncomputable def go116_5 (c : Tk) (a : LL) (b d e f g h i j k : Int) : Bool := bif decide (b < (↑a.length : Int)) then decide (0 ≤ b) && decide (b < (↑a.length : Int)) else false
noncomputable def nx116_5_2 (c : Tk) (a : LL) (b d e f g h i j k : Int) : Int := IntKind.i64.wrap (b + 1)
noncomputable def nx116_5_3 (c : Tk) (a : LL) (b d e f g h i j k : Int) : Int := bif decide (rn116_5_4 c a b d e f g h i j k < 0) then rn116_5_0 c a b d e f g h i j k else d
noncomputable def nx116_5_4 (c : Tk) (a : LL) (b d e f g h i j k : Int) : Int := bif decide (rn116_5_4 c a b d e f g h i j k < 0) then rn116_5_1 c a b d e f g h i j k else e
noncomputable def nx116_5_5 (c : Tk) (a : LL) (b d e f g h i j k : Int) : Int := bif decide (rn116_5_4 c a b d e f g h i j k < 0) then rn116_5_2 c a b d e f g h i j k else f
noncomputable def nx116_5_6 (c : Tk) (a : LL) (b d e f g h i j k : Int) : Int := bif decide (rn116_5_4 c a b d e f g h i j k < 0) then rn116_5_3 c a b d e f g h i j k else g
noncomputable def xc116_5_0 (c : Tk) (a : LL) (b d e f g h i j k : Int) : Bool := bif decide (b < (↑a.length : Int)) then false else true
theorem rd116_5 (rest : Lsp) (c : Tk) (a : LL) (b d e f g i j k l : Int) : rV k105 rest 116 0 Try.f116 5 [0, 1, 4, 5, 6] [0, 1] [4, 5] [0, 1] [AV.sl c kI4 a, AV.fn 117 [], AV.hp 1 0, AV.hp 0 0, iA b] [Blk.var [iA d, iA e, iA f, iA g], Blk.var [iA i, iA j, iA k, iA l]] = bif go116_5 c a b d e f g i j k l then some (Ex.norm, [AV.sl c kI4 a, AV.fn 117 [], AV.hp 1 0, AV.hp 0 0, iA (nx116_5_2 c a b d e f g i j k l)], [Blk.var [iA (nx116_5_3 c a b d e f g i j k l), iA (nx116_5_4 c a b d e f g i j k l), iA (nx116_5_5 c a b d e f g i j k l), iA (nx116_5_6 c a b d e f g i j k l)], Blk.var [iA i, iA j, iA k, iA l]]) else bif xc116_5_0 c a b d e f g i j k l then some (Ex.exit 0, [AV.hp 1 0, AV.hp 0 0], [Blk.var [iA d, iA e, iA f, iA g], Blk.var [iA i, iA j, iA k, iA l]]) else none := by
 refine Eq.trans (b := bif decide (b < (↑a.length : Int)) then bif decide (0 ≤ b) && decide (b < (↑a.length : Int)) then bif decide (rn116_5_4 c a b d e f g i j k l < 0) then bif decide (0 ≤ b) && decide (b < (↑a.length : Int)) then some (Ex.norm, [AV.sl c kI4 a, AV.fn 117 [], AV.hp 1 0, AV.hp 0 0, iA (IntKind.i64.wrap (b + 1))], [Blk.var [iA (rn116_5_0 c a b d e f g i j k l), iA (rn116_5_1 c a b d e f g i j k l), iA (rn116_5_2 c a b d e f g i j k l), iA (rn116_5_3 c a b d e f g i j k l)], Blk.var [iA i, iA j, iA k, iA l]]) else none else some (Ex.norm, [AV.sl c kI4 a, AV.fn 117 [], AV.hp 1 0, AV.hp 0 0, iA (IntKind.i64.wrap (b + 1))], [Blk.var [iA d, iA e, iA f, iA g], Blk.var [iA i, iA j, iA k, iA l]]) else none else some (Ex.exit 0, [AV.hp 1 0, AV.hp 0 0], [Blk.var [iA d, iA e, iA f, iA g], Blk.var [iA i, iA j, iA k, iA l]])) (by kernel_rfl) ?_
 unfold go116_5 nx116_5_2 nx116_5_3 nx116_5_4 nx116_5_5 nx116_5_6 xc116_5_0
 generalize (decide (rn116_5_4 c a b d e f g i j k l < 0)) = c0
 generalize (decide (0 ≤ b) && decide (b < (↑a.length : Int))) = c1
 generalize (decide (b < (↑a.length : Int))) = c2
 cases c2; rfl; cases c1; rfl; cases c0; rfl; rfl
abbrev pl116_5 : Type := Tk × LL × Int × Int × Int × Int
abbrev sl116_5 : Type := Int × Int × Int × Int × Int
noncomputable def vt116_5 (a : pl116_5 × sl116_5) : List AV := [AV.sl a.1.1 kI4 a.1.2.1, AV.fn 117 [], AV.hp 1 0, AV.hp 0 0, iA a.2.1]
noncomputable def vc116_5 (a : pl116_5 × sl116_5) : List Blk := [Blk.var [iA a.2.2.1, iA a.2.2.2.1, iA a.2.2.2.2.1, iA a.2.2.2.2.2], Blk.var [iA a.1.2.2.1, iA a.1.2.2.2.1, iA a.1.2.2.2.2.1, iA a.1.2.2.2.2.2]]
noncomputable def de116_5 (vt : List AV) (vc : List Blk) : Option (pl116_5 × sl116_5) :=
 match vt with
 | [qa0, qa1, qa2, qa3, qa4] => (match vc with
 | [qb0, qb1] => (match qa0 with
 | .sl t0k [.int .i64, .int .i64, .int .i64, .int .i64] t0 => (match qa1 with
 | AV.fn (117) [] => (match qa2 with
 | AV.hp (1) (0) => (match qa3 with
 | AV.hp (0) (0) => (match qa4 with
 | .int .i64 t6 => (match qb0 with
 | .var [.int .i64 b0_0, .int .i64 b0_1, .int .i64 b0_2, .int .i64 b0_3] => (match qb1 with
 | .var [.int .i64 b1_0, .int .i64 b1_1, .int .i64 b1_2, .int .i64 b1_3] => (some ((t0k, t0, b1_0, b1_1, b1_2, b1_3), (t6, b0_0, b0_1, b0_2, b0_3)))
 | _ => none)
 | _ => none)
 | _ => none)
 | _ => none)
 | _ => none)
 | _ => none)
 | _ => none)
 | _ => none)
 | _ => none
theorem de116_5_ok (vt : List AV) (vc : List Blk) (a : pl116_5 × sl116_5) (h : de116_5 vt vc = some a) : vt = vt116_5 a ∧ vc = vc116_5 a := by
 unfold de116_5 at h
 iterate 9 (split at h; rotate_left; · cases h)
 injection h with h; subst h; exact ⟨rfl, rfl⟩
noncomputable def g116_5 (p : pl116_5) (s : sl116_5) : Bool := go116_5 p.1 p.2.1 s.1 s.2.1 s.2.2.1 s.2.2.2.1 s.2.2.2.2 p.2.2.1 p.2.2.2.1 p.2.2.2.2.1 p.2.2.2.2.2
noncomputable def n116_5 (p : pl116_5) (s : sl116_5) : sl116_5 := (nx116_5_2 p.1 p.2.1 s.1 s.2.1 s.2.2.1 s.2.2.2.1 s.2.2.2.2 p.2.2.1 p.2.2.2.1 p.2.2.2.2.1 p.2.2.2.2.2, nx116_5_3 p.1 p.2.1 s.1 s.2.1 s.2.2.1 s.2.2.2.1 s.2.2.2.2 p.2.2.1 p.2.2.2.1 p.2.2.2.2.1 p.2.2.2.2.2, nx116_5_4 p.1 p.2.1 s.1 s.2.1 s.2.2.1 s.2.2.2.1 s.2.2.2.2 p.2.2.1 p.2.2.2.1 p.2.2.2.2.1 p.2.2.2.2.2, nx116_5_5 p.1 p.2.1 s.1 s.2.1 s.2.2.1 s.2.2.2.1 s.2.2.2.2 p.2.2.1 p.2.2.2.1 p.2.2.2.2.1 p.2.2.2.2.2, nx116_5_6 p.1 p.2.1 s.1 s.2.1 s.2.2.1 s.2.2.2.1 s.2.2.2.2 p.2.2.1 p.2.2.2.1 p.2.2.2.2.1 p.2.2.2.2.2)
noncomputable def y116_5 (p : pl116_5) (s : sl116_5) : List (Bool × Out) := []
noncomputable def z116_5 (p : pl116_5) (s : sl116_5) : Bool := xc116_5_0 p.1 p.2.1 s.1 s.2.1 s.2.2.1 s.2.2.2.1 s.2.2.2.2 p.2.2.1 p.2.2.2.1 p.2.2.2.2.1 p.2.2.2.2.2
noncomputable def d116_5 (p : pl116_5) (s : sl116_5) : Out := (Ex.exit 0, [AV.hp 1 0, AV.hp 0 0], [Blk.var [iA s.2.1, iA s.2.2.1, iA s.2.2.2.1, iA s.2.2.2.2], Blk.var [iA p.2.2.1, iA p.2.2.2.1, iA p.2.2.2.2.1, iA p.2.2.2.2.2]])
noncomputable def ls116_5 := lspOf [0, 1, 4, 5, 6] [0, 1] [4, 5] [0, 1] Try.f116.ntmps (0 + tab.nid 116) de116_5 (spI g116_5 n116_5 y116_5 z116_5 d116_5)
theorem lo116_5 (rest : Lsp) : lO k105 (selL 5 ls116_5 rest) 116 0 Try.f116 5 := LoopOK1.iter (i := 5) (by kernel_rfl) [0, 1, 4, 5, 6] [0, 1] [4, 5] [0, 1] vt116_5 vc116_5 de116_5 g116_5 n116_5 y116_5 z116_5 d116_5 (fun _ => rfl) de116_5_ok (fun p s => rd116_5 (selL 5 ls116_5 rest) (p.1) (p.2.1) (s.1) (s.2.1) (s.2.2.1) (s.2.2.2.1) (s.2.2.2.2) (p.2.2.1) (p.2.2.2.1) (p.2.2.2.2.1) (p.2.2.2.2.2)) (fun _ _ => rfl)
noncomputable def lsp116 : Lsp := (selL 5 ls116_5 noLsp)
theorem loops116 : ∀ c, Try.f116.body = some c → lsO k105 lsp116 116 0 Try.f116 c := loops_of [5] (by kernel_rfl) (by kernel_rfl) (fun i hi => by simp only [List.mem_cons, List.not_mem_nil, or_false] at hi; subst hi; exact lo116_5 noLsp)
noncomputable def rev116_0 (tk : Tk) (es : LL) : sl116_5 := finL (g116_5 (tk, es, 0, 0, 0, 0)) (n116_5 (tk, es, 0, 0, 0, 0)) (1, intOf ((es.getD (Int.toNat 0) []).getD 0 AV.junk), intOf ((es.getD (Int.toNat 0) []).getD (0 + 1) AV.junk), intOf ((es.getD (Int.toNat 0) []).getD (0 + 1 + 1) AV.junk), intOf ((es.getD (Int.toNat 0) []).getD (0 + 1 + 1 + 1) AV.junk))
noncomputable def vev116_0 (tk : Tk) (es : LL) : Int := (rev116_0 tk es).snd.fst
noncomputable def vev116_1 (tk : Tk) (es : LL) : Int := (rev116_0 tk es).snd.snd.fst
noncomputable def vev116_2 (tk : Tk) (es : LL) : Int := (rev116_0 tk es).snd.snd.snd.fst
noncomputable def vev116_3 (tk : Tk) (es : LL) : Int := (rev116_0 tk es).snd.snd.snd.snd
noncomputable def vev116_4 (tk : Tk) (es : LL) : Bool := bif decide ((↑es.length : Int) < 1) then false else bif decide ((0 : Int) ≤ 0) && decide (0 < (↑es.length : Int)) then bif (spI g116_5 n116_5 y116_5 z116_5 d116_5 ((tk, es, 0, 0, 0, 0), 1, intOf ((es.getD (Int.toNat 0) []).getD 0 AV.junk), intOf ((es.getD (Int.toNat 0) []).getD (0 + 1) AV.junk), intOf ((es.getD (Int.toNat 0) []).getD (0 + 1 + 1) AV.junk), intOf ((es.getD (Int.toNat 0) []).getD (0 + 1 + 1 + 1) AV.junk))).fst then true else false else false
theorem ev116 (tk : Tk) (es : LL) : eF k105 lsp116 116 Try.f116 [.sl tk kI4 es, .fn 117 []] [] = bif vev116_4 tk es then some (true, AV.agg [iA (vev116_0 tk es), iA (vev116_1 tk es), iA (vev116_2 tk es), iA (vev116_3 tk es)], []) else none := by
 refine Eq.trans (b := bif decide ((↑es.length : Int) < 1) then none else bif decide ((0 : Int) ≤ 0) && decide (0 < (↑es.length : Int)) then bif (spI g116_5 n116_5 y116_5 z116_5 d116_5 ((tk, es, 0, 0, 0, 0), 1, intOf ((es.getD (Int.toNat 0) []).getD 0 AV.junk), intOf ((es.getD (Int.toNat 0) []).getD (0 + 1) AV.junk), intOf ((es.getD (Int.toNat 0) []).getD (0 + 1 + 1) AV.junk), intOf ((es.getD (Int.toNat 0) []).getD (0 + 1 + 1 + 1) AV.junk))).fst then some (true, AV.agg [iA (rev116_0 tk es).snd.fst, iA (rev116_0 tk es).snd.snd.fst, iA (rev116_0 tk es).snd.snd.snd.fst, iA (rev116_0 tk es).snd.snd.snd.snd], []) else none else none) (by kernel_rfl) ?_
 unfold vev116_0 vev116_1 vev116_2 vev116_3 vev116_4
 generalize (spI g116_5 _ _ _ _ _).fst = c0
 generalize (decide ((0 : Int) ≤ 0) && decide (0 < (↑es.length : Int))) = c1
 generalize (decide ((↑es.length : Int) < 1)) = c2
 cases c2; cases c1; rfl; cases c0; rfl; rfl; rfl
noncomputable def sp116 : Sp
 | [.sl tk [.int .i64, .int .i64, .int .i64, .int .i64] es, .fn 117 []], [] => spW (vev116_4 tk es) (some ((true, AV.agg [iA (vev116_0 tk es), iA (vev116_1 tk es), iA (vev116_2 tk es), iA (vev116_3 tk es)], [])))
 | _, _ => none
noncomputable def k116 : Gam := spG 116 sp116 k105
theorem k116_ok : GamOK Try.prog k116 := spG_ok k105_ok fun T C r outs hs => by
   unfold sp116 at hs
   split at hs
   ·exact okE k105_ok Try.func116 loops116 (ev116 _ _) hs
   ·cases hs
noncomputable def vev85_0 (l : Int) (tk : Tk) (es : LL) (id : Int) : Bool := bif vev107a_1 tk es id then true else false
theorem ev85 (l : Int) (tk : Tk) (es : LL) (id : Int) : eF k116 noLsp 85 Try.f85 [.agg [iA l, .sl tk kI4 es], iA id] [] = bif vev85_0 l tk es id then some (true, iA (vev107a_0 tk es id), []) else none := by
 refine Eq.trans (b := bif vev107a_1 tk es id then some (true, iA (vev107a_0 tk es id), []) else none) (by kernel_rfl) ?_
 unfold vev85_0
 generalize (vev107a_1 _ _ _) = c0
 cases c0
 ·skip
  rfl
 ·skip
  rfl
noncomputable def sp85 : Sp
 | [.agg [.int .i64 l, .sl tk [.int .i64, .int .i64, .int .i64, .int .i64] es], .int .i64 id], [] => spW (vev85_0 l tk es id) (some ((true, iA (vev107a_0 tk es id), [])))
 | _, _ => none
noncomputable def k85 : Gam := spG 85 sp85 k116
theorem k85_ok : GamOK Try.prog k85 := spG_ok k116_ok fun T C r outs hs => by
   unfold sp85 at hs
   split at hs
   ·exact okE k116_ok Try.func85 (fun c _ => LoopsOK.none (fun _ _ => rfl) c) (ev85 _ _ _ _) hs
   ·cases hs
noncomputable def rn83_8_0 (f : Tk) (a : LL) (b c d : Int) (g : Tk) (e : LL) : Int := intOf ((a.getD c.toNat []).getD 0 AV.junk)
noncomputable def rn83_8_1 (f : Tk) (a : LL) (b c d : Int) (g : Tk) (e : LL) : sl107a_2 := vev107a_0 g e (rn83_8_0 f a b c d g e)
noncomputable def go83_8 (f : Tk) (a : LL) (b c d : Int) (g : Tk) (e : LL) : Bool := bif decide (c < b) then bif decide (0 ≤ c) && decide (c < (↑a.length : Int)) then bif vev85_0 d g e (rn83_8_0 f a b c d g e) then bif decide (rn83_8_1 f a b c d g e < c) then false else true else false else false else false
noncomputable def nx83_8_3 (f : Tk) (a : LL) (b c d : Int) (g : Tk) (e : LL) : Int := IntKind.i64.wrap (c + 1)
noncomputable def xc83_8_0 (f : Tk) (a : LL) (b c d : Int) (g : Tk) (e : LL) : Bool := bif decide (c < b) then bif decide (0 ≤ c) && decide (c < (↑a.length : Int)) then bif vev85_0 d g e (rn83_8_0 f a b c d g e) then decide (rn83_8_1 f a b c d g e < c) else false else false else false
noncomputable def xc83_8_1 (f : Tk) (a : LL) (b c d : Int) (g : Tk) (e : LL) : Bool := bif decide (c < b) then false else true
theorem rd83_8 (rest : Lsp) (f : Tk) (a : LL) (b c d : Int) (g : Tk) (e : LL) : rV k85 rest 83 0 Try.f83 8 [1, 20, 21, 22] [1] [2] [] [AV.hp 1 0, AV.sl f kI4 a, iA b, iA c] [Blk.var [iA d, AV.sl g kI4 e]] = bif go83_8 f a b c d g e then some (Ex.norm, [AV.hp 1 0, AV.sl f kI4 a, iA b, iA (nx83_8_3 f a b c d g e)], [Blk.var [iA d, AV.sl g kI4 e]]) else bif xc83_8_0 f a b c d g e then some (Ex.ret, [iA 12], []) else bif xc83_8_1 f a b c d g e then some (Ex.exit 1, [AV.junk], []) else none := by
 refine Eq.trans (b := bif decide (c < b) then bif decide (0 ≤ c) && decide (c < (↑a.length : Int)) then bif vev85_0 d g e (rn83_8_0 f a b c d g e) then bif decide (rn83_8_1 f a b c d g e < c) then some (Ex.ret, [iA 12], []) else some (Ex.norm, [AV.hp 1 0, AV.sl f kI4 a, iA b, iA (IntKind.i64.wrap (c + 1))], [Blk.var [iA d, AV.sl g kI4 e]]) else none else none else some (Ex.exit 1, [AV.junk], [])) (by kernel_rfl) ?_
 unfold go83_8 nx83_8_3 xc83_8_0 xc83_8_1
 generalize (decide (0 ≤ c) && decide (c < (↑a.length : Int))) = c0
 generalize (decide (rn83_8_1 f a b c d g e < c)) = c1
 generalize (vev85_0 _ _ _ _) = c2
 generalize (decide (c < b)) = c3
 cases c3; rfl; cases c0; rfl; cases c2; rfl; cases c1; rfl; rfl
abbrev pl83_8 : Type := Tk × LL × Int × Int × Tk × LL
abbrev sl83_8 : Type := Int
noncomputable def vt83_8 (a : pl83_8 × sl83_8) : List AV := [AV.hp 1 0, AV.sl a.1.1 kI4 a.1.2.1, iA a.1.2.2.1, iA a.2]
noncomputable def vc83_8 (a : pl83_8 × sl83_8) : List Blk := [Blk.var [iA a.1.2.2.2.1, AV.sl a.1.2.2.2.2.1 kI4 a.1.2.2.2.2.2]]
noncomputable def de83_8 (vt : List AV) (vc : List Blk) : Option (pl83_8 × sl83_8) :=
 match vt with
 | [qa0, qa1, qa2, qa3] => (match vc with
 | [qb0] => (match qa0 with
 | AV.hp (1) (0) => (match qa1 with
 | .sl t20k [.int .i64, .int .i64, .int .i64, .int .i64] t20 => (match qa2 with
 | .int .i64 t21 => (match qa3 with
 | .int .i64 t22 => (match qb0 with
 | .var [.int .i64 b1_0, .sl b1_1k [.int .i64, .int .i64, .int .i64, .int .i64] b1_1] => (some ((t20k, t20, t21, b1_0, b1_1k, b1_1), t22))
 | _ => none)
 | _ => none)
 | _ => none)
 | _ => none)
 | _ => none)
 | _ => none)
 | _ => none
theorem de83_8_ok (vt : List AV) (vc : List Blk) (a : pl83_8 × sl83_8) (h : de83_8 vt vc = some a) : vt = vt83_8 a ∧ vc = vc83_8 a := by
 unfold de83_8 at h
 iterate 7 (split at h; rotate_left; · cases h)
 injection h with h; subst h; exact ⟨rfl, rfl⟩
noncomputable def g83_8 (p : pl83_8) (s : sl83_8) : Bool := go83_8 p.1 p.2.1 p.2.2.1 s p.2.2.2.1 p.2.2.2.2.1 p.2.2.2.2.2
noncomputable def n83_8 (p : pl83_8) (s : sl83_8) : sl83_8 := nx83_8_3 p.1 p.2.1 p.2.2.1 s p.2.2.2.1 p.2.2.2.2.1 p.2.2.2.2.2
noncomputable def y83_8 (p : pl83_8) (s : sl83_8) : List (Bool × Out) := [(xc83_8_0 p.1 p.2.1 p.2.2.1 s p.2.2.2.1 p.2.2.2.2.1 p.2.2.2.2.2, (Ex.ret, [iA 12], []))]
noncomputable def z83_8 (p : pl83_8) (s : sl83_8) : Bool := xc83_8_1 p.1 p.2.1 p.2.2.1 s p.2.2.2.1 p.2.2.2.2.1 p.2.2.2.2.2
noncomputable def d83_8 (p : pl83_8) (s : sl83_8) : Out := (Ex.exit 1, [AV.junk], [])
noncomputable def ls83_8 := lspOf [1, 20, 21, 22] [1] [2] [] Try.f83.ntmps (0 + tab.nid 83) de83_8 (spI g83_8 n83_8 y83_8 z83_8 d83_8)
theorem lo83_8 (rest : Lsp) : lO k85 (selL 8 ls83_8 rest) 83 0 Try.f83 8 := LoopOK1.iter (i := 8) (by kernel_rfl) [1, 20, 21, 22] [1] [2] [] vt83_8 vc83_8 de83_8 g83_8 n83_8 y83_8 z83_8 d83_8 (fun _ => rfl) de83_8_ok (fun p s => rd83_8 (selL 8 ls83_8 rest) (p.1) (p.2.1) (p.2.2.1) s (p.2.2.2.1) (p.2.2.2.2.1) (p.2.2.2.2.2)) (fun _ _ => rfl)
noncomputable def lsp83 : Lsp := (selL 8 ls83_8 noLsp)
theorem loops83 : ∀ c, Try.f83.body = some c → lsO k85 lsp83 83 0 Try.f83 c := loops_of [8] (by kernel_rfl) (by kernel_rfl) (fun i hi => by simp only [List.mem_cons, List.not_mem_nil, or_false] at hi; subst hi; exact lo83_8 noLsp)
noncomputable def rev83_0 (l : Int) (tk : Tk) (es : LL) : sl83_8 := finL (g83_8 (tk, es, (↑es.length : Int), l, tk, es)) (n83_8 (tk, es, (↑es.length : Int), l, tk, es)) 0
noncomputable def vev83_0 (l : Int) (tk : Tk) (es : LL) : Int := bif !vev80_0 l 1 1000 then 8 else bif decide ((↑es.length : Int) > 16) then 7 else bif vev105_0 tk es then 8 else bif xc83_8_0 tk es (↑es.length : Int) (rev83_0 l tk es) l tk es then 12 else 0
noncomputable def vev83_1 (l : Int) (tk : Tk) (es : LL) : Bool := bif !vev80_0 l 1 1000 then true else bif decide ((↑es.length : Int) > 16) then true else bif vev105_1 tk es then bif vev105_0 tk es then true else bif (spI g83_8 n83_8 y83_8 z83_8 d83_8 ((tk, es, (↑es.length : Int), l, tk, es), 0)).fst then true else false else false
theorem ev83 (l : Int) (tk : Tk) (es : LL) : eF k85 lsp83 83 Try.f83 [.agg [iA l, .sl tk kI4 es]] [] = bif vev83_1 l tk es then some (true, iA (vev83_0 l tk es), []) else none := by
 refine Eq.trans (b := bif !vev80_0 l 1 1000 then some (true, iA 8, []) else bif decide ((↑es.length : Int) > 16) then some (true, iA 7, []) else bif vev105_1 tk es then bif vev105_0 tk es then some (true, iA 8, []) else bif (spI g83_8 n83_8 y83_8 z83_8 d83_8 ((tk, es, (↑es.length : Int), l, tk, es), 0)).fst then bif xc83_8_0 tk es (↑es.length : Int) (rev83_0 l tk es) l tk es then some (true, iA 12, []) else some (true, iA 0, []) else none else none) (by kernel_rfl) ?_
 unfold vev83_0 vev83_1
 generalize (spI g83_8 _ _ _ _ _).fst = c0
 generalize (decide ((↑es.length : Int) > 16)) = c1
 generalize (xc83_8_0 _ _ _ _ _ _ _) = c2
 generalize (!vev80_0 _ _ _) = c3
 generalize (vev105_0 _ _) = c4
 generalize (vev105_1 _ _) = c5
 cases c3; cases c1; cases c5; rfl; cases c4; cases c0; rfl; cases c2; rfl; rfl; rfl; rfl; rfl
noncomputable def sp83 : Sp
 | [.agg [.int .i64 l, .sl tk [.int .i64, .int .i64, .int .i64, .int .i64] es]], [] => spW (vev83_1 l tk es) (some ((true, iA (vev83_0 l tk es), [])))
 | _, _ => none
noncomputable def k83 : Gam := spG 83 sp83 k85
theorem k83_ok : GamOK Try.prog k83 := spG_ok k85_ok fun T C r outs hs => by
   unfold sp83 at hs
   split at hs
   ·exact okE k85_ok Try.func83 loops83 (ev83 _ _ _) hs
   ·cases hs
noncomputable def go74_5 (a : Int) (e : Tk) (b : LL) (c d : Int) : Bool := bif decide (d < c) then decide (0 ≤ d) && decide (d < (↑b.length : Int)) else false
noncomputable def nx74_5_0 (a : Int) (e : Tk) (b : LL) (c d : Int) : Int := IntKind.i64.wrap (a + intOf ((b.getD d.toNat []).getD (0 + 1 + 1) AV.junk))
noncomputable def nx74_5_4 (a : Int) (e : Tk) (b : LL) (c d : Int) : Int := IntKind.i64.wrap (d + 1)
noncomputable def xc74_5_0 (a : Int) (e : Tk) (b : LL) (c d : Int) : Bool := bif decide (d < c) then false else true
theorem rd74_5 (rest : Lsp) (a : Int) (e : Tk) (b : LL) (c d : Int) : rV k83 rest 74 0 Try.f74 5 [3, 10, 11, 12] [] [3] [] [iA a, AV.sl e kI4 b, iA c, iA d] [] = bif go74_5 a e b c d then some (Ex.norm, [iA (nx74_5_0 a e b c d), AV.sl e kI4 b, iA c, iA (nx74_5_4 a e b c d)], []) else bif xc74_5_0 a e b c d then some (Ex.exit 0, [iA a], []) else none := by
 refine Eq.trans (b := bif decide (d < c) then bif decide (0 ≤ d) && decide (d < (↑b.length : Int)) then some (Ex.norm, [iA (IntKind.i64.wrap (a + intOf ((b.getD d.toNat []).getD (0 + 1 + 1) AV.junk))), AV.sl e kI4 b, iA c, iA (IntKind.i64.wrap (d + 1))], []) else none else some (Ex.exit 0, [iA a], [])) (by kernel_rfl) ?_
 unfold go74_5 nx74_5_0 nx74_5_4 xc74_5_0
 generalize (decide (0 ≤ d) && decide (d < (↑b.length : Int))) = c0
 generalize (decide (d < c)) = c1
 cases c1; rfl; cases c0; rfl; rfl
abbrev pl74_5 : Type := Tk × LL × Int
abbrev sl74_5 : Type := Int × Int
noncomputable def vt74_5 (a : pl74_5 × sl74_5) : List AV := [iA a.2.1, AV.sl a.1.1 kI4 a.1.2.1, iA a.1.2.2, iA a.2.2]
noncomputable def vc74_5 (a : pl74_5 × sl74_5) : List Blk := []
noncomputable def de74_5 (vt : List AV) (vc : List Blk) : Option (pl74_5 × sl74_5) :=
 match vt with
 | [qa0, qa1, qa2, qa3] => (match vc with
 | [] => (match qa0 with
 | .int .i64 t3 => (match qa1 with
 | .sl t10k [.int .i64, .int .i64, .int .i64, .int .i64] t10 => (match qa2 with
 | .int .i64 t11 => (match qa3 with
 | .int .i64 t12 => (some ((t10k, t10, t11), (t3, t12)))
 | _ => none)
 | _ => none)
 | _ => none)
 | _ => none)
 | _ => none)
 | _ => none
theorem de74_5_ok (vt : List AV) (vc : List Blk) (a : pl74_5 × sl74_5) (h : de74_5 vt vc = some a) : vt = vt74_5 a ∧ vc = vc74_5 a := by
 unfold de74_5 at h
 iterate 6 (split at h; rotate_left; · cases h)
 injection h with h; subst h; exact ⟨rfl, rfl⟩
noncomputable def g74_5 (p : pl74_5) (s : sl74_5) : Bool := go74_5 s.1 p.1 p.2.1 p.2.2 s.2
noncomputable def n74_5 (p : pl74_5) (s : sl74_5) : sl74_5 := (nx74_5_0 s.1 p.1 p.2.1 p.2.2 s.2, nx74_5_4 s.1 p.1 p.2.1 p.2.2 s.2)
noncomputable def y74_5 (p : pl74_5) (s : sl74_5) : List (Bool × Out) := []
noncomputable def z74_5 (p : pl74_5) (s : sl74_5) : Bool := xc74_5_0 s.1 p.1 p.2.1 p.2.2 s.2
noncomputable def d74_5 (p : pl74_5) (s : sl74_5) : Out := (Ex.exit 0, [iA s.1], [])
noncomputable def ls74_5 := lspOf [3, 10, 11, 12] [] [3] [] Try.f74.ntmps (0 + tab.nid 74) de74_5 (spI g74_5 n74_5 y74_5 z74_5 d74_5)
theorem lo74_5 (rest : Lsp) : lO k83 (selL 5 ls74_5 rest) 74 0 Try.f74 5 := LoopOK1.iter (i := 5) (by kernel_rfl) [3, 10, 11, 12] [] [3] [] vt74_5 vc74_5 de74_5 g74_5 n74_5 y74_5 z74_5 d74_5 (fun _ => rfl) de74_5_ok (fun p s => rd74_5 (selL 5 ls74_5 rest) (s.1) (p.1) (p.2.1) (p.2.2) (s.2)) (fun _ _ => rfl)
noncomputable def lsp74 : Lsp := (selL 5 ls74_5 noLsp)
theorem loops74 : ∀ c, Try.f74.body = some c → lsO k83 lsp74 74 0 Try.f74 c := loops_of [5] (by kernel_rfl) (by kernel_rfl) (fun i hi => by simp only [List.mem_cons, List.not_mem_nil, or_false] at hi; subst hi; exact lo74_5 noLsp)
noncomputable def rev74_0 (l : Int) (tk : Tk) (es : LL) : sl74_5 := finL (g74_5 (tk, es, (↑es.length : Int))) (n74_5 (tk, es, (↑es.length : Int))) (0, 0)
noncomputable def vev74_0 (l : Int) (tk : Tk) (es : LL) : Int := bif vev83_0 l tk es != 0 then 0 else (rev74_0 l tk es).fst
noncomputable def vev74_1 (l : Int) (tk : Tk) (es : LL) : Bool := bif vev83_1 l tk es then bif vev83_0 l tk es != 0 then true else bif (spI g74_5 n74_5 y74_5 z74_5 d74_5 ((tk, es, (↑es.length : Int)), 0, 0)).fst then true else false else false
theorem ev74 (l : Int) (tk : Tk) (es : LL) : eF k83 lsp74 74 Try.f74 [.agg [iA l, .sl tk kI4 es]] [] = bif vev74_1 l tk es then some (true, iA (vev74_0 l tk es), []) else none := by
 refine Eq.trans (b := bif vev83_1 l tk es then bif vev83_0 l tk es != 0 then some (true, iA 0, []) else bif (spI g74_5 n74_5 y74_5 z74_5 d74_5 ((tk, es, (↑es.length : Int)), 0, 0)).fst then some (true, iA (rev74_0 l tk es).fst, []) else none else none) (by kernel_rfl) ?_
 unfold vev74_0 vev74_1
 generalize (spI g74_5 _ _ _ _ _).fst = c0
 generalize (vev83_0 l tk es != 0) = c1
 generalize (vev83_1 _ _ _) = c2
 cases c2; rfl; cases c1; cases c0; rfl; rfl; rfl
noncomputable def sp74 : Sp
 | [.agg [.int .i64 l, .sl tk [.int .i64, .int .i64, .int .i64, .int .i64] es]], [] => spW (vev74_1 l tk es) (some ((true, iA (vev74_0 l tk es), [])))
 | _, _ => none
noncomputable def k74 : Gam := spG 74 sp74 k83
theorem k74_ok : GamOK Try.prog k74 := spG_ok k83_ok fun T C r outs hs => by
   unfold sp74 at hs
   split at hs
   ·exact okE k83_ok Try.func74 loops74 (ev74 _ _ _) hs
   ·cases hs
noncomputable def vev100_0 (l : Int) (tk : Tk) (es : LL) : Int := bif bif (↑es.length : Int) == 0 then true else bif vev83_1 l tk es then vev83_0 l tk es != 0 else false then (-1) else bif decide (vev107b_0 tk es l tk es ≥ 0) then vev107b_0 tk es l tk es else vev107a_0 tk es (vev116_0 tk es)
noncomputable def vev100_1 (l : Int) (tk : Tk) (es : LL) : Bool := bif bif (↑es.length : Int) == 0 then true else vev83_1 l tk es then bif bif (↑es.length : Int) == 0 then true else bif vev83_1 l tk es then vev83_0 l tk es != 0 else false then true else bif vev107b_1 tk es l tk es then bif decide (vev107b_0 tk es l tk es ≥ 0) then true else bif vev116_4 tk es then bif vev85_0 l tk es (vev116_0 tk es) then true else false else false else false else false
theorem ev100 (l : Int) (tk : Tk) (es : LL) : eF k74 noLsp 100 Try.f100 [.agg [iA l, .sl tk kI4 es]] [] = bif vev100_1 l tk es then some (true, iA (vev100_0 l tk es), []) else none := by
 refine Eq.trans (b := bif bif (↑es.length : Int) == 0 then true else bif vev83_1 l tk es then true else false then bif bif (↑es.length : Int) == 0 then true else bif vev83_1 l tk es then bif false then true else vev83_0 l tk es != 0 else false then some (true, iA (-1), []) else bif vev107b_1 tk es l tk es then bif decide (vev107b_0 tk es l tk es ≥ 0) then some (true, iA (vev107b_0 tk es l tk es), []) else bif vev116_4 tk es then bif vev85_0 l tk es (vev116_0 tk es) then some (true, iA (vev107a_0 tk es (vev116_0 tk es)), []) else none else none else none else none) (by kernel_rfl) ?_
 unfold vev100_0 vev100_1
 generalize (decide (vev107b_0 tk es l tk es ≥ 0)) = c0
 generalize ((↑es.length : Int) == 0) = c1
 generalize (vev83_0 l tk es != 0) = c2
 generalize (vev85_0 _ _ _ _) = c3
 generalize (vev107b_1 _ _ _ _ _) = c4
 generalize (vev83_1 _ _ _) = c5
 generalize (vev116_4 _ _) = c6
 cases c1; cases c5; rfl; cases c2; cases c4; rfl; cases c0; cases c6; rfl; cases c3; rfl; rfl; rfl; rfl; rfl
noncomputable def sp100 : Sp
 | [.agg [.int .i64 l, .sl tk [.int .i64, .int .i64, .int .i64, .int .i64] es]], [] => spW (vev100_1 l tk es) (some ((true, iA (vev100_0 l tk es), [])))
 | _, _ => none
noncomputable def k100 : Gam := spG 100 sp100 k74
theorem k100_ok : GamOK Try.prog k100 := spG_ok k74_ok fun T C r outs hs => by
   unfold sp100 at hs
   split at hs
   ·exact okE k74_ok Try.func100 (fun c _ => LoopsOK.none (fun _ _ => rfl) c) (ev100 _ _ _) hs
   ·cases hs
end Go.Proofs.Gv
