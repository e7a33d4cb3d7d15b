import Derived.Test.YthnbpgiohimkoaaPs32
import Derived.Test.YthnbpgiohimkoaaPs35
import Derived.Test.YthnbpgiohimkoaaPs27
import Derived.KernelRfl
import Derived.Test.YthnbpgiohimkoaaPs30
import Derived.Test.YthnbpgiohimkoaaPs31
import Derived.Test.YthnbpgiohimkoaaPs36
set_option linter.unusedVariables false
namespace Go.Proofs.Gv
open Go.Proofs
noncomputable def vev42_0 (n a b : Int) : Bool := bif decide (a ≤ n) then bif true then decide (n ≤ b) else false else false
theorem ev42 (n a b : Int) : eF k95 noLsp 42 Try.f42 [iA n, iA a, iA b] [] = bif true then some (true, AV.bool (vev42_0 n a b), []) else none := by
 refine Eq.trans (b := bif bif decide (a ≤ n) then true else true then some (true, AV.bool (bif decide (a ≤ n) then bif true then decide (n ≤ b) else false else false), []) else none) (by kernel_rfl) ?_
 unfold vev42_0
 generalize (decide (a ≤ n)) = c0
 cases c0
 ·skip
  rfl
 ·skip
  rfl
noncomputable def sp42 : Sp
 | [.int .i64 n, .int .i64 a, .int .i64 b], [] => spW (true) (some ((true, AV.bool (vev42_0 n a b), [])))
 | _, _ => none
noncomputable def k42 : Gam := spG 42 sp42 k95
theorem k42_ok : GamOK Try.prog k42 := spG_ok k95_ok fun T C r outs hs => by
   unfold sp42 at hs
   split at hs
   ·rename_i n a b
    obtain ⟨hb, rfl, rfl⟩ := spT_inv hs
    have he := ev42 n a b
    obtain ⟨r0, o0, h0, he⟩ := evFin_inv he
    obtain ⟨h1, h2⟩ := fn_ok mixed plain (gk_ok k95_ok 30) Try.func42 (fun c _ => LoopsOK.none (fun _ _ => rfl) c) h0
    exact ⟨h1, h2.fin he⟩
   ·cases hs
noncomputable def vev78_0 (n a : Int) : Bool := bif decide (0 ≤ n) then bif true then decide (n ≤ a) else false else false
theorem ev78 (n a : Int) : eF k42 noLsp 78 Try.f78 [iA n, iA a] [] = bif true then some (true, AV.bool (vev78_0 n a), []) else none := by
 refine Eq.trans (b := bif bif decide (0 ≤ n) then true else true then some (true, AV.bool (bif decide (0 ≤ n) then bif true then decide (n ≤ a) else false else false), []) else none) (by kernel_rfl) ?_
 unfold vev78_0
 generalize (decide (0 ≤ n)) = c0
 cases c0
 ·skip
  rfl
 ·skip
  rfl
noncomputable def sp78 : Sp
 | [.int .i64 n, .int .i64 a], [] => spW (true) (some ((true, AV.bool (vev78_0 n a), [])))
 | _, _ => none
noncomputable def k78 : Gam := spG 78 sp78 k42
theorem k78_ok : GamOK Try.prog k78 := spG_ok k42_ok fun T C r outs hs => by
   unfold sp78 at hs
   split at hs
   ·rename_i n a
    obtain ⟨hb, rfl, rfl⟩ := spT_inv hs
    have he := ev78 n a
    obtain ⟨r0, o0, h0, he⟩ := evFin_inv he
    obtain ⟨h1, h2⟩ := fn_ok mixed plain (gk_ok k42_ok 30) Try.func78 (fun c _ => LoopsOK.none (fun _ _ => rfl) c) h0
    exact ⟨h1, h2.fin he⟩
   ·cases hs
noncomputable def vev79_0 (n : Int) : Bool := bif decide (n > 0) then bif true then decide (n ≤ 16) else false else false
theorem ev79 (n : Int) : eF k78 noLsp 79 Try.f79 [iA n] [] = bif true then some (true, AV.bool (vev79_0 n), []) else none := by
 refine Eq.trans (b := bif bif decide (n > 0) then true else true then some (true, AV.bool (bif decide (n > 0) then bif true then decide (n ≤ 16) else false else false), []) else none) (by kernel_rfl) ?_
 unfold vev79_0
 generalize (decide (n > 0)) = c0
 cases c0
 ·skip
  rfl
 ·skip
  rfl
noncomputable def sp79 : Sp
 | [.int .i64 n], [] => spW (true) (some ((true, AV.bool (vev79_0 n), [])))
 | _, _ => none
noncomputable def k79 : Gam := spG 79 sp79 k78
theorem k79_ok : GamOK Try.prog k79 := spG_ok k78_ok fun T C r outs hs => by
   unfold sp79 at hs
   split at hs
   ·rename_i n
    obtain ⟨hb, rfl, rfl⟩ := spT_inv hs
    have he := ev79 n
    obtain ⟨r0, o0, h0, he⟩ := evFin_inv he
    obtain ⟨h1, h2⟩ := fn_ok mixed plain (gk_ok k78_ok 30) Try.func79 (fun c _ => LoopsOK.none (fun _ _ => rfl) c) h0
    exact ⟨h1, h2.fin he⟩
   ·cases hs
noncomputable def vev101_0 (c n : Int) : Int := bif bif !vev78_0 c 1099511627776 then true else !vev79_0 n then 0 else IntKind.i64.wrap (c * IntKind.i64.wrap (Int.tdiv 720720 n))
noncomputable def vev101_1 (c n : Int) : Int := bif bif !vev78_0 c 1099511627776 then true else !vev79_0 n then 8 else 0
noncomputable def vev101_2 (c n : Int) : Bool := bif bif !vev78_0 c 1099511627776 then true else !vev79_0 n then true else bif !n == 0 then true else false
theorem ev101 (c n : Int) : eF k79 noLsp 101 Try.f101 [iA c, iA n] [] = bif vev101_2 c n then some (true, AV.tup [iA (vev101_0 c n), iA (vev101_1 c n)], []) else none := by
 refine Eq.trans (b := bif bif !vev78_0 c 1099511627776 then true else true then bif bif !vev78_0 c 1099511627776 then true else bif false then true else !vev79_0 n then some (true, AV.tup [iA 0, iA 8], []) else bif !n == 0 then some (true, AV.tup [iA (IntKind.i64.wrap (c * IntKind.i64.wrap (Int.tdiv 720720 n))), iA 0], []) else none else none) (by kernel_rfl) ?_
 unfold vev101_0 vev101_1 vev101_2
 generalize (!n == 0) = c0
 generalize (!vev78_0 _ _) = c1
 generalize (!vev79_0 _) = c2
 cases c1; cases c2; cases c0; rfl; rfl; rfl; rfl
noncomputable def sp101 : Sp
 | [.int .i64 c, .int .i64 n], [] => spW (vev101_2 c n) (some ((true, AV.tup [iA (vev101_0 c n), iA (vev101_1 c n)], [])))
 | _, _ => none
noncomputable def k101 : Gam := spG 101 sp101 k79
theorem k101_ok : GamOK Try.prog k101 := spG_ok k79_ok fun T C r outs hs => by
   unfold sp101 at hs
   split at hs
   ·exact okE k79_ok Try.func101 (fun c _ => LoopsOK.none (fun _ _ => rfl) c) (ev101 _ _) hs
   ·cases hs
noncomputable def vev77_0 (w s f k : Int) : Int := bif bif vev79_0 w then bif vev78_0 k 1099511627776 then bif vev78_0 s 2305843009213693952 then vev78_0 f 2305843009213693952 else false else false else false then 0 else 8
theorem ev77 (w s f k : Int) : eF k101 noLsp 77 Try.f77 [.agg [iA w, iA s, iA f, iA k]] [] = bif true then some (true, iA (vev77_0 w s f k), []) else none := by
 refine Eq.trans (b := bif bif vev79_0 w then bif bif true then vev78_0 k 1099511627776 else false then bif bif true then vev78_0 s 2305843009213693952 else false then true else true else true else true then bif bif vev79_0 w then bif bif true then vev78_0 k 1099511627776 else false then bif bif true then vev78_0 s 2305843009213693952 else false then bif true then vev78_0 f 2305843009213693952 else false else false else false else false then some (true, iA 0, []) else some (true, iA 8, []) else none) (by kernel_rfl) ?_
 unfold vev77_0
 generalize (vev78_0 f 2305843009213693952) = c0
 generalize (vev78_0 k 1099511627776) = c1
 generalize (vev78_0 s 2305843009213693952) = c2
 generalize (vev79_0 _) = c3
 cases c3; rfl; cases c1; rfl; cases c2; rfl; cases c0; rfl; rfl
noncomputable def sp77 : Sp
 | [.agg [.int .i64 w, .int .i64 s, .int .i64 f, .int .i64 k]], [] => spW (true) (some ((true, iA (vev77_0 w s f k), [])))
 | _, _ => none
noncomputable def k77 : Gam := spG 77 sp77 k101
theorem k77_ok : GamOK Try.prog k77 := spG_ok k101_ok fun T C r outs hs => by
   unfold sp77 at hs
   split at hs
   ·rename_i w s f k
    obtain ⟨hb, rfl, rfl⟩ := spT_inv hs
    have he := ev77 w s f k
    obtain ⟨r0, o0, h0, he⟩ := evFin_inv he
    obtain ⟨h1, h2⟩ := fn_ok mixed plain (gk_ok k101_ok 30) Try.func77 (fun c _ => LoopsOK.none (fun _ _ => rfl) c) h0
    exact ⟨h1, h2.fin he⟩
   ·cases hs
noncomputable def vev43_0 (n : Int) : Int := bif !vev79_0 n then 0 else n
noncomputable def vev43_1 (n : Int) : Int := bif !vev79_0 n then 8 else 0
theorem ev43 (n : Int) : eF k77 noLsp 43 Try.f43 [iA n] [] = some (true, AV.tup [AV.agg [iA (vev43_0 n), iA 0, iA 0, iA 0], iA (vev43_1 n)], []) := by
 refine Eq.trans (b := bif !vev79_0 n then some (true, AV.tup [AV.agg [iA 0, iA 0, iA 0, iA 0], iA 8], []) else some (true, AV.tup [AV.agg [iA n, iA 0, iA 0, iA 0], iA 0], [])) (by kernel_rfl) ?_
 unfold vev43_0 vev43_1
 generalize (!vev79_0 _) = c0
 cases c0
 ·skip
  rfl
 ·skip
  rfl
noncomputable def sp43 : Sp
 | [.int .i64 n], [] => spW (true) (some ((true, AV.tup [AV.agg [iA (vev43_0 n), iA 0, iA 0, iA 0], iA (vev43_1 n)], [])))
 | _, _ => none
noncomputable def k43 : Gam := spG 43 sp43 k77
theorem k43_ok : GamOK Try.prog k43 := spG_ok k77_ok fun T C r outs hs => by
   unfold sp43 at hs
   split at hs
   ·rename_i n
    obtain ⟨hb, rfl, rfl⟩ := spT_inv hs
    have he := ev43 n
    obtain ⟨r0, o0, h0, he⟩ := evFin_inv he
    obtain ⟨h1, h2⟩ := fn_ok mixed plain (gk_ok k77_ok 30) Try.func43 (fun c _ => LoopsOK.none (fun _ _ => rfl) c) h0
    exact ⟨h1, h2.fin he⟩
   ·cases hs
noncomputable def vev49_0 (v w s f k : Int) : Int := bif bif vev77_0 w s f k == 0 then vev78_0 v 2305843009213693952 else false then if if true = true then f < v else v < f then v else f else s
theorem ev49 (v w s f k : Int) : eF k43 noLsp 49 Try.f49 [iA v, .agg [iA w, iA s, iA f, iA k]] [] = bif true then some (true, AV.agg [iA w, iA (vev49_0 v w s f k), iA f, iA k], []) else none := by
 refine Eq.trans (b := bif bif vev77_0 w s f k == 0 then true else true then bif bif vev77_0 w s f k == 0 then bif true then vev78_0 v 2305843009213693952 else false else false then some (true, AV.agg [iA w, iA (if if true = true then f < v else v < f then v else f), iA f, iA k], []) else some (true, AV.agg [iA w, iA s, iA f, iA k], []) else none) (by kernel_rfl) ?_
 unfold vev49_0
 generalize (vev77_0 w s f k == 0) = c0
 generalize (vev78_0 _ _) = c1
 cases c0; rfl; cases c1; rfl; rfl
noncomputable def sp49 : Sp
 | [.int .i64 v, .agg [.int .i64 w, .int .i64 s, .int .i64 f, .int .i64 k]], [] => spW (true) (some ((true, AV.agg [iA w, iA (vev49_0 v w s f k), iA f, iA k], [])))
 | _, _ => none
noncomputable def k49 : Gam := spG 49 sp49 k43
theorem k49_ok : GamOK Try.prog k49 := spG_ok k43_ok fun T C r outs hs => by
   unfold sp49 at hs
   split at hs
   ·rename_i v w s f k
    obtain ⟨hb, rfl, rfl⟩ := spT_inv hs
    have he := ev49 v w s f k
    obtain ⟨r0, o0, h0, he⟩ := evFin_inv he
    obtain ⟨h1, h2⟩ := fn_ok mixed plain (gk_ok k43_ok 30) Try.func49 (fun c _ => LoopsOK.none (fun _ _ => rfl) c) h0
    exact ⟨h1, h2.fin he⟩
   ·cases hs
noncomputable def rev68_0 (v w s f k c : Int) : Int := IntKind.i64.wrap (1099511627776 - k)
noncomputable def rev68_1 (v w s f k c : Int) : Int := IntKind.i64.wrap (2305843009213693952 - s)
noncomputable def vev68_0 (v w s f k c : Int) : Int := bif vev77_0 w s f k != 0 then v else bif vev101_1 c w != 0 then v else bif bif decide (c > rev68_0 v w s f k c) then true else decide (vev101_0 c w > rev68_1 v w s f k c) then v else s
noncomputable def vev68_1 (v w s f k c : Int) : Int := bif vev77_0 w s f k != 0 then s else bif vev101_1 c w != 0 then s else bif bif decide (c > rev68_0 v w s f k c) then true else decide (vev101_0 c w > rev68_1 v w s f k c) then s else IntKind.i64.wrap (s + vev101_0 c w)
noncomputable def vev68_2 (v w s f k c : Int) : Int := bif vev77_0 w s f k != 0 then f else bif vev101_1 c w != 0 then f else bif bif decide (c > rev68_0 v w s f k c) then true else decide (vev101_0 c w > rev68_1 v w s f k c) then f else IntKind.i64.wrap (s + vev101_0 c w)
noncomputable def vev68_3 (v w s f k c : Int) : Int := bif vev77_0 w s f k != 0 then k else bif vev101_1 c w != 0 then k else bif bif decide (c > rev68_0 v w s f k c) then true else decide (vev101_0 c w > rev68_1 v w s f k c) then k else IntKind.i64.wrap (k + c)
noncomputable def vev68_4 (v w s f k c : Int) : Int := bif vev77_0 w s f k != 0 then vev77_0 w s f k else bif vev101_1 c w != 0 then vev101_1 c w else bif bif decide (c > rev68_0 v w s f k c) then true else decide (vev101_0 c w > rev68_1 v w s f k c) then 7 else 0
noncomputable def vev68_5 (v w s f k c : Int) : Bool := bif vev77_0 w s f k != 0 then true else bif vev101_2 c w then true else false
theorem ev68 (v w s f k c : Int) : eF k49 noLsp 68 Try.f68 [iA v, .agg [iA w, iA s, iA f, iA k], iA c] [] = bif vev68_5 v w s f k c then some (true, AV.tup [iA (vev68_0 v w s f k c), AV.agg [iA w, iA (vev68_1 v w s f k c), iA (vev68_2 v w s f k c), iA (vev68_3 v w s f k c)], iA (vev68_4 v w s f k c)], []) else none := by
 refine Eq.trans (b := bif vev77_0 w s f k != 0 then some (true, AV.tup [iA v, AV.agg [iA w, iA s, iA f, iA k], iA (vev77_0 w s f k)], []) else bif vev101_2 c w then bif vev101_1 c w != 0 then some (true, AV.tup [iA v, AV.agg [iA w, iA s, iA f, iA k], iA (vev101_1 c w)], []) else bif bif decide (c > rev68_0 v w s f k c) then true else true then bif bif decide (c > rev68_0 v w s f k c) then true else bif false then true else decide (vev101_0 c w > rev68_1 v w s f k c) then some (true, AV.tup [iA v, AV.agg [iA w, iA s, iA f, iA k], iA 7], []) else some (true, AV.tup [iA s, AV.agg [iA w, iA (IntKind.i64.wrap (s + vev101_0 c w)), iA (IntKind.i64.wrap (s + vev101_0 c w)), iA (IntKind.i64.wrap (k + c))], iA 0], []) else none else none) (by kernel_rfl) ?_
 unfold vev68_0 vev68_1 vev68_2 vev68_3 vev68_4 vev68_5
 generalize (decide (vev101_0 c w > rev68_1 v w s f k c)) = c0
 generalize (decide (c > rev68_0 v w s f k c)) = c1
 generalize (vev77_0 w s f k != 0) = c2
 generalize (vev101_1 c w != 0) = c3
 generalize (vev101_2 _ _) = c4
 cases c2; cases c4; rfl; cases c3; cases c1; cases c0; rfl; rfl; rfl; rfl; rfl
noncomputable def sp68 : Sp
 | [.int .i64 v, .agg [.int .i64 w, .int .i64 s, .int .i64 f, .int .i64 k], .int .i64 c], [] => spW (vev68_5 v w s f k c) (some ((true, AV.tup [iA (vev68_0 v w s f k c), AV.agg [iA w, iA (vev68_1 v w s f k c), iA (vev68_2 v w s f k c), iA (vev68_3 v w s f k c)], iA (vev68_4 v w s f k c)], [])))
 | _, _ => none
noncomputable def k68 : Gam := spG 68 sp68 k49
theorem k68_ok : GamOK Try.prog k68 := spG_ok k49_ok fun T C r outs hs => by
   unfold sp68 at hs
   split at hs
   ·exact okE k49_ok Try.func68 (fun c _ => LoopsOK.none (fun _ _ => rfl) c) (ev68 _ _ _ _ _ _) hs
   ·cases hs
noncomputable def vev92_0 (n a : Int) : Bool := bif decide (n ≥ 0) then bif true then decide (n ≤ a) else false else false
theorem ev92 (n a : Int) : eF k68 noLsp 92 Try.f92 [iA n, iA a] [] = bif true then some (true, AV.bool (vev92_0 n a), []) else none := by
 refine Eq.trans (b := bif bif decide (n ≥ 0) then true else true then some (true, AV.bool (bif decide (n ≥ 0) then bif true then decide (n ≤ a) else false else false), []) else none) (by kernel_rfl) ?_
 unfold vev92_0
 generalize (decide (n ≥ 0)) = c0
 cases c0
 ·skip
  rfl
 ·skip
  rfl
noncomputable def sp92 : Sp
 | [.int .i64 n, .int .i64 a], [] => spW (true) (some ((true, AV.bool (vev92_0 n a), [])))
 | _, _ => none
noncomputable def k92 : Gam := spG 92 sp92 k68
theorem k92_ok : GamOK Try.prog k92 := spG_ok k68_ok fun T C r outs hs => by
   unfold sp92 at hs
   split at hs
   ·rename_i n a
    obtain ⟨hb, rfl, rfl⟩ := spT_inv hs
    have he := ev92 n a
    obtain ⟨r0, o0, h0, he⟩ := evFin_inv he
    obtain ⟨h1, h2⟩ := fn_ok mixed plain (gk_ok k68_ok 30) Try.func92 (fun c _ => LoopsOK.none (fun _ _ => rfl) c) h0
    exact ⟨h1, h2.fin he⟩
   ·cases hs
noncomputable def vev81_0 (w s f k : Int) : Int := bif bif decide (w < 1) then true else bif decide (w > 16) then true else bif !vev92_0 k 1099511627776 then true else bif !vev92_0 s 2305843009213693952 then true else !vev92_0 f 2305843009213693952 then 8 else 0
theorem ev81 (w s f k : Int) : eF k92 noLsp 81 Try.f81 [.agg [iA w, iA s, iA f, iA k]] [] = bif true then some (true, iA (vev81_0 w s f k), []) else none := by
 refine Eq.trans (b := bif bif decide (w < 1) then true else bif bif false then true else decide (w > 16) then true else bif bif false then true else !vev92_0 k 1099511627776 then true else bif bif false then true else !vev92_0 s 2305843009213693952 then true else true then bif bif decide (w < 1) then true else bif bif false then true else decide (w > 16) then true else bif bif false then true else !vev92_0 k 1099511627776 then true else bif bif false then true else !vev92_0 s 2305843009213693952 then true else bif false then true else !vev92_0 f 2305843009213693952 then some (true, iA 8, []) else some (true, iA 0, []) else none) (by kernel_rfl) ?_
 unfold vev81_0
 generalize (decide (w > 16)) = c0
 generalize (decide (w < 1)) = c1
 generalize (!vev92_0 f 2305843009213693952) = c2
 generalize (!vev92_0 k 1099511627776) = c3
 generalize (!vev92_0 s 2305843009213693952) = c4
 cases c1; cases c0; cases c3; cases c4; cases c2; rfl; rfl; rfl; rfl; rfl; rfl
noncomputable def sp81 : Sp
 | [.agg [.int .i64 w, .int .i64 s, .int .i64 f, .int .i64 k]], [] => spW (true) (some ((true, iA (vev81_0 w s f k), [])))
 | _, _ => none
noncomputable def k81 : Gam := spG 81 sp81 k92
theorem k81_ok : GamOK Try.prog k81 := spG_ok k92_ok fun T C r outs hs => by
   unfold sp81 at hs
   split at hs
   ·rename_i w s f k
    obtain ⟨hb, rfl, rfl⟩ := spT_inv hs
    have he := ev81 w s f k
    obtain ⟨r0, o0, h0, he⟩ := evFin_inv he
    obtain ⟨h1, h2⟩ := fn_ok mixed plain (gk_ok k92_ok 30) Try.func81 (fun c _ => LoopsOK.none (fun _ _ => rfl) c) h0
    exact ⟨h1, h2.fin he⟩
   ·cases hs
noncomputable def vev103_0 (c n : Int) : Int := bif bif !vev92_0 c 1099511627776 then true else bif decide (n < 1) then true else decide (n > 16) then 0 else IntKind.i64.wrap ((IntKind.i64.wrap (c * 720720)).tdiv n)
noncomputable def vev103_1 (c n : Int) : Int := bif bif !vev92_0 c 1099511627776 then true else bif decide (n < 1) then true else decide (n > 16) then 8 else 0
noncomputable def vev103_2 (c n : Int) : Bool := bif bif !vev92_0 c 1099511627776 then true else bif decide (n < 1) then true else decide (n > 16) then true else bif !n == 0 then true else false
theorem ev103 (c n : Int) : eF k81 noLsp 103 Try.f103 [iA c, iA n] [] = bif vev103_2 c n then some (true, AV.tup [iA (vev103_0 c n), iA (vev103_1 c n)], []) else none := by
 refine Eq.trans (b := bif bif !vev92_0 c 1099511627776 then true else bif bif false then true else decide (n < 1) then true else true then bif bif !vev92_0 c 1099511627776 then true else bif bif false then true else decide (n < 1) then true else bif false then true else decide (n > 16) then some (true, AV.tup [iA 0, iA 8], []) else bif !n == 0 then some (true, AV.tup [iA (IntKind.i64.wrap ((IntKind.i64.wrap (c * 720720)).tdiv n)), iA 0], []) else none else none) (by kernel_rfl) ?_
 unfold vev103_0 vev103_1 vev103_2
 generalize (decide (n > 16)) = c0
 generalize (decide (n < 1)) = c1
 generalize (!n == 0) = c2
 generalize (!vev92_0 _ _) = c3
 cases c3; cases c1; cases c0; cases c2; rfl; rfl; rfl; rfl; rfl
noncomputable def sp103 : Sp
 | [.int .i64 c, .int .i64 n], [] => spW (vev103_2 c n) (some ((true, AV.tup [iA (vev103_0 c n), iA (vev103_1 c n)], [])))
 | _, _ => none
noncomputable def k103 : Gam := spG 103 sp103 k81
theorem k103_ok : GamOK Try.prog k103 := spG_ok k81_ok fun T C r outs hs => by
   unfold sp103 at hs
   split at hs
   ·exact okE k81_ok Try.func103 (fun c _ => LoopsOK.none (fun _ _ => rfl) c) (ev103 _ _) hs
   ·cases hs
noncomputable def rev45_0 (n : Int) : Int := vev81_0 n 0 0 0
noncomputable def vev45_0 (n : Int) : Int := bif rev45_0 n != 0 then 0 else n
noncomputable def vev45_1 (n : Int) : Int := bif rev45_0 n != 0 then rev45_0 n else 0
theorem ev45 (n : Int) : eF k103 noLsp 45 Try.f45 [iA n] [] = some (true, AV.tup [AV.agg [iA (vev45_0 n), iA 0, iA 0, iA 0], iA (vev45_1 n)], []) := by
 refine Eq.trans (b := bif rev45_0 n != 0 then some (true, AV.tup [AV.agg [iA 0, iA 0, iA 0, iA 0], iA (rev45_0 n)], []) else some (true, AV.tup [AV.agg [iA n, iA 0, iA 0, iA 0], iA 0], [])) (by kernel_rfl) ?_
 unfold vev45_0 vev45_1
 generalize (rev45_0 n != 0) = c0
 cases c0
 ·skip
  rfl
 ·skip
  rfl
noncomputable def sp45 : Sp
 | [.int .i64 n], [] => spW (true) (some ((true, AV.tup [AV.agg [iA (vev45_0 n), iA 0, iA 0, iA 0], iA (vev45_1 n)], [])))
 | _, _ => none
noncomputable def k45 : Gam := spG 45 sp45 k103
theorem k45_ok : GamOK Try.prog k45 := spG_ok k103_ok fun T C r outs hs => by
   unfold sp45 at hs
   split at hs
   ·rename_i n
    obtain ⟨hb, rfl, rfl⟩ := spT_inv hs
    have he := ev45 n
    obtain ⟨r0, o0, h0, he⟩ := evFin_inv he
    obtain ⟨h1, h2⟩ := fn_ok mixed plain (gk_ok k103_ok 30) Try.func45 (fun c _ => LoopsOK.none (fun _ _ => rfl) c) h0
    exact ⟨h1, h2.fin he⟩
   ·cases hs
noncomputable def vev53_0 (v w s f k : Int) : Int := bif bif vev81_0 w s f k != 0 then true else !vev92_0 v 2305843009213693952 then s else if if true = true then v < f else f < v then f else v
theorem ev53 (v w s f k : Int) : eF k45 noLsp 53 Try.f53 [iA v, .agg [iA w, iA s, iA f, iA k]] [] = bif true then some (true, AV.agg [iA w, iA (vev53_0 v w s f k), iA f, iA k], []) else none := by
 refine Eq.trans (b := bif bif vev81_0 w s f k != 0 then true else true then bif bif vev81_0 w s f k != 0 then true else bif false then true else !vev92_0 v 2305843009213693952 then some (true, AV.agg [iA w, iA s, iA f, iA k], []) else some (true, AV.agg [iA w, iA (if if true = true then v < f else f < v then f else v), iA f, iA k], []) else none) (by kernel_rfl) ?_
 unfold vev53_0
 generalize (vev81_0 w s f k != 0) = c0
 generalize (!vev92_0 _ _) = c1
 cases c0; cases c1; rfl; rfl; rfl
noncomputable def sp53 : Sp
 | [.int .i64 v, .agg [.int .i64 w, .int .i64 s, .int .i64 f, .int .i64 k]], [] => spW (true) (some ((true, AV.agg [iA w, iA (vev53_0 v w s f k), iA f, iA k], [])))
 | _, _ => none
noncomputable def k53 : Gam := spG 53 sp53 k45
theorem k53_ok : GamOK Try.prog k53 := spG_ok k45_ok fun T C r outs hs => by
   unfold sp53 at hs
   split at hs
   ·rename_i v w s f k
    obtain ⟨hb, rfl, rfl⟩ := spT_inv hs
    have he := ev53 v w s f k
    obtain ⟨r0, o0, h0, he⟩ := evFin_inv he
    obtain ⟨h1, h2⟩ := fn_ok mixed plain (gk_ok k45_ok 30) Try.func53 (fun c _ => LoopsOK.none (fun _ _ => rfl) c) h0
    exact ⟨h1, h2.fin he⟩
   ·cases hs
noncomputable def rev71_0 (v w s f k c : Int) : Int := IntKind.i64.wrap (k + c)
noncomputable def rev71_1 (v w s f k c : Int) : Int := IntKind.i64.wrap (s + vev103_0 c w)
noncomputable def vev71_0 (v w s f k c : Int) : Int := bif vev81_0 w s f k != 0 then v else bif vev103_1 c w != 0 then v else bif bif decide (rev71_0 v w s f k c > 1099511627776) then true else decide (rev71_1 v w s f k c > 2305843009213693952) then v else s
noncomputable def vev71_1 (v w s f k c : Int) : Int := bif vev81_0 w s f k != 0 then s else bif vev103_1 c w != 0 then s else bif bif decide (rev71_0 v w s f k c > 1099511627776) then true else decide (rev71_1 v w s f k c > 2305843009213693952) then s else rev71_1 v w s f k c
noncomputable def vev71_2 (v w s f k c : Int) : Int := bif vev81_0 w s f k != 0 then f else bif vev103_1 c w != 0 then f else bif bif decide (rev71_0 v w s f k c > 1099511627776) then true else decide (rev71_1 v w s f k c > 2305843009213693952) then f else rev71_1 v w s f k c
noncomputable def vev71_3 (v w s f k c : Int) : Int := bif vev81_0 w s f k != 0 then k else bif vev103_1 c w != 0 then k else bif bif decide (rev71_0 v w s f k c > 1099511627776) then true else decide (rev71_1 v w s f k c > 2305843009213693952) then k else rev71_0 v w s f k c
noncomputable def vev71_4 (v w s f k c : Int) : Int := bif vev81_0 w s f k != 0 then vev81_0 w s f k else bif vev103_1 c w != 0 then vev103_1 c w else bif bif decide (rev71_0 v w s f k c > 1099511627776) then true else decide (rev71_1 v w s f k c > 2305843009213693952) then 7 else 0
noncomputable def vev71_5 (v w s f k c : Int) : Bool := bif vev81_0 w s f k != 0 then true else bif vev103_2 c w then true else false
theorem ev71 (v w s f k c : Int) : eF k53 noLsp 71 Try.f71 [iA v, .agg [iA w, iA s, iA f, iA k], iA c] [] = bif vev71_5 v w s f k c then some (true, AV.tup [iA (vev71_0 v w s f k c), AV.agg [iA w, iA (vev71_1 v w s f k c), iA (vev71_2 v w s f k c), iA (vev71_3 v w s f k c)], iA (vev71_4 v w s f k c)], []) else none := by
 refine Eq.trans (b := bif vev81_0 w s f k != 0 then some (true, AV.tup [iA v, AV.agg [iA w, iA s, iA f, iA k], iA (vev81_0 w s f k)], []) else bif vev103_2 c w then bif vev103_1 c w != 0 then some (true, AV.tup [iA v, AV.agg [iA w, iA s, iA f, iA k], iA (vev103_1 c w)], []) else bif bif decide (rev71_0 v w s f k c > 1099511627776) then true else true then bif bif decide (rev71_0 v w s f k c > 1099511627776) then true else bif false then true else decide (rev71_1 v w s f k c > 2305843009213693952) then some (true, AV.tup [iA v, AV.agg [iA w, iA s, iA f, iA k], iA 7], []) else some (true, AV.tup [iA s, AV.agg [iA w, iA (rev71_1 v w s f k c), iA (rev71_1 v w s f k c), iA (rev71_0 v w s f k c)], iA 0], []) else none else none) (by kernel_rfl) ?_
 unfold vev71_0 vev71_1 vev71_2 vev71_3 vev71_4 vev71_5
 generalize (decide (rev71_0 v w s f k c > 1099511627776)) = c0
 generalize (decide (rev71_1 v w s f k c > 2305843009213693952)) = c1
 generalize (vev81_0 w s f k != 0) = c2
 generalize (vev103_1 c w != 0) = c3
 generalize (vev103_2 _ _) = c4
 cases c2; cases c4; rfl; cases c3; cases c0; cases c1; rfl; rfl; rfl; rfl; rfl
noncomputable def sp71 : Sp
 | [.int .i64 v, .agg [.int .i64 w, .int .i64 s, .int .i64 f, .int .i64 k], .int .i64 c], [] => spW (vev71_5 v w s f k c) (some ((true, AV.tup [iA (vev71_0 v w s f k c), AV.agg [iA w, iA (vev71_1 v w s f k c), iA (vev71_2 v w s f k c), iA (vev71_3 v w s f k c)], iA (vev71_4 v w s f k c)], [])))
 | _, _ => none
noncomputable def k71 : Gam := spG 71 sp71 k53
theorem k71_ok : GamOK Try.prog k71 := spG_ok k53_ok fun T C r outs hs => by
   unfold sp71 at hs
   split at hs
   ·exact okE k53_ok Try.func71 (fun c _ => LoopsOK.none (fun _ _ => rfl) c) (ev71 _ _ _ _ _ _) hs
   ·cases hs
noncomputable def rev48_0 (c : Int) (es : LL) : Int := (↑(elsO ((List.drop 1 (getK es c)).getD (0 + 1 + 1 + 1 + 1 + 1 + 1) AV.junk)).length : Int)
noncomputable def vev48_0 (c : Int) (es : LL) : Bool := decide (rev48_0 c es > 0)
noncomputable def vev48_1 (c : Int) (es : LL) : Bool := bif hasK es c then true else false
theorem ev48 (c : Int) (es : LL) : eF k71 noLsp 48 Try.f48 [.mt 0 kF c 0] [.tbl kF es none] = bif vev48_1 c es then some (true, AV.bool (vev48_0 c es), [Blk.tbl kF es none]) else none := by
 refine Eq.trans (b := bif hasK es c then some (true, AV.bool (decide (rev48_0 c es > 0)), [Blk.tbl kF es none]) else none) (by kernel_rfl) ?_
 unfold vev48_0 vev48_1
 generalize (hasK es c) = c0
 cases c0
 ·skip
  rfl
 ·skip
  rfl
noncomputable def sp48 : Sp
 | [.mt 0 [.int .i64, .int .i64, .int .i64, .int .i64, .int .i64, .int .i64, .sl [.int .i64, .int .i64, .int .i64, .int .i64]] c 0], [.tbl [.int .i64, .int .i64, .int .i64, .int .i64, .int .i64, .int .i64, .sl [.int .i64, .int .i64, .int .i64, .int .i64]] es none] => spW (vev48_1 c es) (some ((true, AV.bool (vev48_0 c es), [.row [] []])))
 | _, _ => none
noncomputable def k48 : Gam := spG 48 sp48 k71
theorem k48_ok : GamOK Try.prog k48 := spG_ok k71_ok fun T C r outs hs => by
   unfold sp48 at hs
   split at hs
   ·rename_i c es
    obtain ⟨hb, rfl, rfl⟩ := spT_inv hs
    have he := ev48 c es
    rw [hb, cond_true] at he
    obtain ⟨r0, o0, h0, he⟩ := evFin_inv he
    obtain ⟨h1, h2⟩ := fn_ok mixed plain (gk_ok k71_ok 30) Try.func48 (fun c _ => LoopsOK.none (fun _ _ => rfl) c) h0
    have h3 := h2.fin he
    exact ⟨h1, h3⟩
   ·cases hs
noncomputable def rn34_5_0 (c d e f g : Int) (h : LL) (i j : Int) (a b : LL) : Int := intOf ((a.getD e.toNat []).getD 0 AV.junk)
noncomputable def rn34_5_1 (c d e f g : Int) (h : LL) (i j : Int) (a b : LL) : Int := intOf ((List.drop 1 (getK b (rn34_5_0 c d e f g h i j a b))).getD (0 + 1 + 1 + 1 + 1 + 1) AV.junk)
noncomputable def rn34_5_2 (c d e f g : Int) (h : LL) (i j : Int) (a b : LL) : LL := elsO ((List.drop 1 (getK b (rn34_5_0 c d e f g h i j a b))).getD (0 + 1 + 1 + 1 + 1 + 1 + 1) AV.junk)
noncomputable def go34_5 (c d e f g : Int) (h : LL) (i j : Int) (a b : LL) : Bool := bif decide (e < d) then bif decide (0 ≤ e) && decide (e < (↑a.length : Int)) then bif hasK b (rn34_5_0 c d e f g h i j a b) then vev74_1 (rn34_5_1 c d e f g h i j a b) Tk.imm (rn34_5_2 c d e f g h i j a b) else false else false else false
noncomputable def nx34_5_0 (c d e f g : Int) (h : LL) (i j : Int) (a b : LL) : Int := IntKind.i64.wrap (c + vev74_0 (rn34_5_1 c d e f g h i j a b) Tk.imm (rn34_5_2 c d e f g h i j a b))
noncomputable def nx34_5_2 (c d e f g : Int) (h : LL) (i j : Int) (a b : LL) : Int := IntKind.i64.wrap (e + 1)
noncomputable def xc34_5_0 (c d e f g : Int) (h : LL) (i j : Int) (a b : LL) : Bool := bif decide (e < d) then false else true
theorem rd34_5 (rest : Lsp) (c d e f g : Int) (i : LL) (j k : Int) (a b : LL) : rV k48 rest 34 3 Try.f34 5 [0, 3, 11, 12, 13] [0, 1, 2] [3] [0, 1, 2] [AV.hp 0 0, iA c, AV.rf 1 kI1, iA d, iA e] (bS f g i j k a b) = bif go34_5 c d e f g i j k a b then some (Ex.norm, [AV.hp 0 0, iA (nx34_5_0 c d e f g i j k a b), AV.rf 1 kI1, iA d, iA (nx34_5_2 c d e f g i j k a b)], (bS f g i j k a b)) else bif xc34_5_0 c d e f g i j k a b then some (Ex.exit 0, [iA c], (bS f g i j k a b)) else none := by
 refine Eq.trans (b := bif decide (e < d) then bif decide (0 ≤ e) && decide (e < (↑a.length : Int)) then bif hasK b (rn34_5_0 c d e f g i j k a b) then bif hasK b (rn34_5_0 c d e f g i j k a b) then bif vev74_1 (rn34_5_1 c d e f g i j k a b) Tk.imm (rn34_5_2 c d e f g i j k a b) then some (Ex.norm, [AV.hp 0 0, iA (IntKind.i64.wrap (c + vev74_0 (rn34_5_1 c d e f g i j k a b) Tk.imm (rn34_5_2 c d e f g i j k a b))), AV.rf 1 kI1, iA d, iA (IntKind.i64.wrap (e + 1))], (bS f g i j k a b)) else none else none else none else none else some (Ex.exit 0, [iA c], (bS f g i j k a b))) (by kernel_rfl) ?_
 unfold go34_5 nx34_5_0 nx34_5_2 xc34_5_0
 generalize (decide (0 ≤ e) && decide (e < (↑a.length : Int))) = c0
 generalize (vev74_1 _ _ _) = c1
 generalize (hasK b (rn34_5_0 c d e f g i j k a b)) = c2
 generalize (decide (e < d)) = c3
 cases c3; rfl; cases c0; rfl; cases c2; rfl; cases c1; rfl; rfl
abbrev pl34_5 : Type := Int × Int × Int × LL × Int × Int × LL × LL
abbrev sl34_5 : Type := Int × Int
noncomputable def vt34_5 (a : pl34_5 × sl34_5) : List AV := [AV.hp 0 0, iA a.2.1, AV.rf 1 kI1, iA a.1.1, iA a.2.2]
noncomputable def vc34_5 (a : pl34_5 × sl34_5) : List Blk := (bS a.1.2.1 a.1.2.2.1 a.1.2.2.2.1 a.1.2.2.2.2.1 a.1.2.2.2.2.2.1 a.1.2.2.2.2.2.2.1 a.1.2.2.2.2.2.2.2)
noncomputable def de34_5 (vt : List AV) (vc : List Blk) : Option (pl34_5 × sl34_5) :=
 match vt with
 | [qa0, qa1, qa2, qa3, qa4] => (match vc with
 | [qb0, qb1, qb2] => (match qa0 with
 | AV.hp (0) (0) => (match qa1 with
 | .int .i64 t3 => (match qa2 with
 | AV.rf (1) [.int .i64] => (match qa3 with
 | .int .i64 t12 => (match qa4 with
 | .int .i64 t13 => (match qb0 with
 | .var [.int .i64 b0_0, .int .i64 b0_1, AV.rf (1) [.int .i64], AV.mp (2) [.int .i64, .int .i64, .int .i64, .int .i64, .int .i64, .int .i64, .sl [.int .i64, .int .i64, .int .i64, .int .i64]], .sl Tk.imm [.int .i64, .int .i64] b0_4, .int .i64 b0_5, .int .i64 b0_6] => (match qb1 with
 | .row [.int .i64] b1 => (match qb2 with
 | Blk.tbl [.int .i64, .int .i64, .int .i64, .int .i64, .int .i64, .int .i64, .sl [.int .i64, .int .i64, .int .i64, .int .i64]] b2 none => (some ((t12, b0_0, b0_1, b0_4, b0_5, b0_6, b1, b2), (t3, t13)))
 | _ => none)
 | _ => none)
 | _ => none)
 | _ => none)
 | _ => none)
 | _ => none)
 | _ => none)
 | _ => none)
 | _ => none)
 | _ => none
theorem de34_5_ok (vt : List AV) (vc : List Blk) (a : pl34_5 × sl34_5) (h : de34_5 vt vc = some a) : vt = vt34_5 a ∧ vc = vc34_5 a := by
 unfold de34_5 at h
 iterate 10 (split at h; rotate_left; · cases h)
 injection h with h; subst h; exact ⟨rfl, rfl⟩
noncomputable def g34_5 (p : pl34_5) (s : sl34_5) : Bool := go34_5 s.1 p.1 s.2 p.2.1 p.2.2.1 p.2.2.2.1 p.2.2.2.2.1 p.2.2.2.2.2.1 p.2.2.2.2.2.2.1 p.2.2.2.2.2.2.2
noncomputable def n34_5 (p : pl34_5) (s : sl34_5) : sl34_5 := (nx34_5_0 s.1 p.1 s.2 p.2.1 p.2.2.1 p.2.2.2.1 p.2.2.2.2.1 p.2.2.2.2.2.1 p.2.2.2.2.2.2.1 p.2.2.2.2.2.2.2, nx34_5_2 s.1 p.1 s.2 p.2.1 p.2.2.1 p.2.2.2.1 p.2.2.2.2.1 p.2.2.2.2.2.1 p.2.2.2.2.2.2.1 p.2.2.2.2.2.2.2)
noncomputable def y34_5 (p : pl34_5) (s : sl34_5) : List (Bool × Out) := []
noncomputable def z34_5 (p : pl34_5) (s : sl34_5) : Bool := xc34_5_0 s.1 p.1 s.2 p.2.1 p.2.2.1 p.2.2.2.1 p.2.2.2.2.1 p.2.2.2.2.2.1 p.2.2.2.2.2.2.1 p.2.2.2.2.2.2.2
noncomputable def d34_5 (p : pl34_5) (s : sl34_5) : Out := (Ex.exit 0, [iA s.1], (bS p.2.1 p.2.2.1 p.2.2.2.1 p.2.2.2.2.1 p.2.2.2.2.2.1 p.2.2.2.2.2.2.1 p.2.2.2.2.2.2.2))
noncomputable def ls34_5 := lspOf [0, 3, 11, 12, 13] [0, 1, 2] [3] [0, 1, 2] Try.f34.ntmps (3 + tab.nid 34) de34_5 (spI g34_5 n34_5 y34_5 z34_5 d34_5)
theorem lo34_5 (rest : Lsp) : lO k48 (selL 5 ls34_5 rest) 34 3 Try.f34 5 := LoopOK1.iter (i := 5) (by kernel_rfl) [0, 3, 11, 12, 13] [0, 1, 2] [3] [0, 1, 2] vt34_5 vc34_5 de34_5 g34_5 n34_5 y34_5 z34_5 d34_5 (fun _ => rfl) de34_5_ok (fun p s => rd34_5 (selL 5 ls34_5 rest) (s.1) (p.1) (s.2) (p.2.1) (p.2.2.1) (p.2.2.2.1) (p.2.2.2.2.1) (p.2.2.2.2.2.1) (p.2.2.2.2.2.2.1) (p.2.2.2.2.2.2.2)) (fun _ _ => rfl)
noncomputable def lsp34 : Lsp := (selL 5 ls34_5 noLsp)
theorem loops34 : ∀ c, Try.f34.body = some c → lsO k48 lsp34 34 3 Try.f34 c := loops_of [5] (by kernel_rfl) (by kernel_rfl) (fun i hi => by simp only [List.mem_cons, List.not_mem_nil, or_false] at hi; subst hi; exact lo34_5 noLsp)
noncomputable def rev34_0 (q lim t k : Int) (order es ready : LL) : sl34_5 := finL (g34_5 ((↑order.length : Int), q, lim, ready, t, k, order, es)) (n34_5 ((↑order.length : Int), q, lim, ready, t, k, order, es)) (0, 0)
noncomputable def vev34_0 (q lim t k : Int) (order es ready : LL) : Int := (rev34_0 q lim t k order es ready).fst
noncomputable def vev34_1 (q lim t k : Int) (order es ready : LL) : Bool := bif (spI g34_5 n34_5 y34_5 z34_5 d34_5 (((↑order.length : Int), q, lim, ready, t, k, order, es), 0, 0)).fst then true else false
theorem ev34 (q lim t k : Int) (order es ready : LL) : eF k48 lsp34 34 Try.f34 [.hp 0 0] (bS q lim ready t k order es) = bif vev34_1 q lim t k order es ready then some (true, iA (vev34_0 q lim t k order es ready), (bS q lim ready t k order es)) else none := by
 refine Eq.trans (b := bif (spI g34_5 n34_5 y34_5 z34_5 d34_5 (((↑order.length : Int), q, lim, ready, t, k, order, es), 0, 0)).fst then some (true, iA (rev34_0 q lim t k order es ready).fst, (bS q lim ready t k order es)) else none) (by kernel_rfl) ?_
 unfold vev34_0 vev34_1
 generalize (spI g34_5 _ _ _ _ _).fst = c0
 cases c0
 ·skip
  rfl
 ·skip
  rfl
noncomputable def sp34 : Sp
 | [.hp 0 0], [.var [.int .i64 q, .int .i64 lim, .rf 1 [.int .i64], .mp 2 [.int .i64, .int .i64, .int .i64, .int .i64, .int .i64, .int .i64, .sl [.int .i64, .int .i64, .int .i64, .int .i64]], .sl .imm [.int .i64, .int .i64] ready, .int .i64 t, .int .i64 k], .row [.int .i64] order, .tbl [.int .i64, .int .i64, .int .i64, .int .i64, .int .i64, .int .i64, .sl [.int .i64, .int .i64, .int .i64, .int .i64]] es none] => spW (vev34_1 q lim t k order es ready) (some ((true, iA (vev34_0 q lim t k order es ready), [.row [] []])))
 | _, _ => none
noncomputable def k34 : Gam := spG 34 sp34 k48
theorem k34_ok : GamOK Try.prog k34 := spG_ok k48_ok fun T C r outs hs => by
   unfold sp34 at hs
   split at hs
   ·rename_i q lim ready t k order es
    obtain ⟨hb, rfl, rfl⟩ := spT_inv hs
    have he := ev34 q lim t k order es ready
    rw [hb, cond_true] at he
    obtain ⟨r0, o0, h0, he⟩ := evFin_inv he
    obtain ⟨h1, h2⟩ := fn_ok mixed plain (gk_ok k48_ok 30) Try.func34 loops34 h0
    have h3 := h2.fin he
    exact ⟨h1, h3⟩
   ·cases hs
theorem ev36 (q lim t k : Int) (order es ready : LL) : eF k34 noLsp 36 Try.f36 [.hp 0 0] (bS q lim ready t k order es) = some (true, iA t, (bS q lim ready t k order es)) := by kernel_rfl
noncomputable def sp36 : Sp
 | [.hp 0 0], [.var [.int .i64 q, .int .i64 lim, .rf 1 [.int .i64], .mp 2 [.int .i64, .int .i64, .int .i64, .int .i64, .int .i64, .int .i64, .sl [.int .i64, .int .i64, .int .i64, .int .i64]], .sl .imm [.int .i64, .int .i64] ready, .int .i64 t, .int .i64 k], .row [.int .i64] order, .tbl [.int .i64, .int .i64, .int .i64, .int .i64, .int .i64, .int .i64, .sl [.int .i64, .int .i64, .int .i64, .int .i64]] es none] => spW (true) (some ((true, iA t, [.row [] []])))
 | _, _ => none
noncomputable def k36 : Gam := spG 36 sp36 k34
theorem k36_ok : GamOK Try.prog k36 := spG_ok k34_ok fun T C r outs hs => by
   unfold sp36 at hs
   split at hs
   ·rename_i q lim ready t k order es
    obtain ⟨hb, rfl, rfl⟩ := spT_inv hs
    have he := ev36 q lim t k order es ready
    obtain ⟨r0, o0, h0, he⟩ := evFin_inv he
    obtain ⟨h1, h2⟩ := fn_ok mixed plain (gk_ok k34_ok 30) Try.func36 (fun c _ => LoopsOK.none (fun _ _ => rfl) c) h0
    have h3 := h2.fin he
    exact ⟨h1, h3⟩
   ·cases hs
theorem ev37 (q lim t k : Int) (order es ready : LL) : eF k36 noLsp 37 Try.f37 [.hp 0 0] (bS q lim ready t k order es) = some (true, iA k, (bS q lim ready t k order es)) := by kernel_rfl
noncomputable def sp37 : Sp
 | [.hp 0 0], [.var [.int .i64 q, .int .i64 lim, .rf 1 [.int .i64], .mp 2 [.int .i64, .int .i64, .int .i64, .int .i64, .int .i64, .int .i64, .sl [.int .i64, .int .i64, .int .i64, .int .i64]], .sl .imm [.int .i64, .int .i64] ready, .int .i64 t, .int .i64 k], .row [.int .i64] order, .tbl [.int .i64, .int .i64, .int .i64, .int .i64, .int .i64, .int .i64, .sl [.int .i64, .int .i64, .int .i64, .int .i64]] es none] => spW (true) (some ((true, iA k, [.row [] []])))
 | _, _ => none
noncomputable def k37 : Gam := spG 37 sp37 k36
theorem k37_ok : GamOK Try.prog k37 := spG_ok k36_ok fun T C r outs hs => by
   unfold sp37 at hs
   split at hs
   ·rename_i q lim ready t k order es
    obtain ⟨hb, rfl, rfl⟩ := spT_inv hs
    have he := ev37 q lim t k order es ready
    obtain ⟨r0, o0, h0, he⟩ := evFin_inv he
    obtain ⟨h1, h2⟩ := fn_ok mixed plain (gk_ok k36_ok 30) Try.func37 (fun c _ => LoopsOK.none (fun _ _ => rfl) c) h0
    have h3 := h2.fin he
    exact ⟨h1, h3⟩
   ·cases hs
noncomputable def rn35_5_0 (d e f g : Int) (h : LL) (i j : Int) (a b c : LL) : Int := intOf ((a.getD e.toNat []).getD 0 AV.junk)
noncomputable def rn35_5_1 (d e f g : Int) (h : LL) (i j : Int) (a b c : LL) : LL := elsO ((List.drop 1 (getK b (rn35_5_0 d e f g h i j a b c))).getD (0 + 1 + 1 + 1 + 1 + 1 + 1) AV.junk)
noncomputable def rn35_5_2 (d e f g : Int) (h : LL) (i j : Int) (a b c : LL) : LL := [[iA (intOf ((List.drop 1 (getK b (rn35_5_0 d e f g h i j a b c))).getD 0 AV.junk)), iA (intOf ((List.drop 1 (getK b (rn35_5_0 d e f g h i j a b c))).getD (0 + 1) AV.junk)), iA (intOf ((List.drop 1 (getK b (rn35_5_0 d e f g h i j a b c))).getD (0 + 1 + 1) AV.junk)), iA (intOf ((List.drop 1 (getK b (rn35_5_0 d e f g h i j a b c))).getD (0 + 1 + 1 + 1) AV.junk)), iA (intOf ((List.drop 1 (getK b (rn35_5_0 d e f g h i j a b c))).getD (0 + 1 + 1 + 1 + 1) AV.junk)), iA (intOf ((List.drop 1 (getK b (rn35_5_0 d e f g h i j a b c))).getD (0 + 1 + 1 + 1 + 1 + 1) AV.junk)), AV.sl Tk.imm kI4 (rn35_5_1 d e f g h i j a b c)]]
noncomputable def go35_5 (d e f g : Int) (h : LL) (i j : Int) (a b c : LL) : Bool := bif decide (e < d) then bif decide (0 ≤ e) && decide (e < (↑a.length : Int)) then bif hasK b (rn35_5_0 d e f g h i j a b c) then bif ((rn35_5_1 d e f g h i j a b c).length * 32).ble 140737488355328 then bif decide ((c.length + (rn35_5_2 d e f g h i j a b c).length) * 72 ≤ 140737488355328) then decide (c.length + (rn35_5_2 d e f g h i j a b c).length ≤ 9223372036854775807) else false else false else false else false else false
noncomputable def nx35_5_1 (d e f g : Int) (h : LL) (i j : Int) (a b c : LL) : Int := IntKind.i64.wrap (e + 1)
noncomputable def nx35_5_9 (d e f g : Int) (h : LL) (i j : Int) (a b c : LL) : LL := c ++ rn35_5_2 d e f g h i j a b c
noncomputable def xc35_5_0 (d e f g : Int) (h : LL) (i j : Int) (a b c : LL) : Bool := bif decide (e < d) then false else true
theorem rd35_5 (rest : Lsp) (d e f g : Int) (i : LL) (j k : Int) (a b c : LL) : rV k37 rest 35 3 Try.f35 5 [0, 3, 12, 13, 14] [0, 1, 2, 3, 6] [3] [0, 1, 2, 3, 6] [AV.hp 0 0, AV.rf 6 kF, AV.rf 1 kI1, iA d, iA e] [bV f g 1 2 i j k, Blk.row kI1 a, Blk.tbl kF b none, Blk.dead, Blk.row kF c] = bif go35_5 d e f g i j k a b c then some (Ex.norm, [AV.hp 0 0, AV.rf 6 kF, AV.rf 1 kI1, iA d, iA (nx35_5_1 d e f g i j k a b c)], [bV f g 1 2 i j k, Blk.row kI1 a, Blk.tbl kF b none, Blk.dead, Blk.row kF (nx35_5_9 d e f g i j k a b c)]) else bif xc35_5_0 d e f g i j k a b c then some (Ex.exit 0, [AV.rf 6 kF], [bV f g 1 2 i j k, Blk.row kI1 a, Blk.tbl kF b none, Blk.dead, Blk.row kF c]) else none := by
 refine Eq.trans (b := bif decide (e < d) then bif decide (0 ≤ e) && decide (e < (↑a.length : Int)) then bif hasK b (rn35_5_0 d e f g i j k a b c) then bif hasK b (rn35_5_0 d e f g i j k a b c) then bif ((rn35_5_1 d e f g i j k a b c).length * 32).ble 140737488355328 then bif bif decide ((c.length + (rn35_5_2 d e f g i j k a b c).length) * 72 ≤ 140737488355328) then decide (c.length + (rn35_5_2 d e f g i j k a b c).length ≤ 9223372036854775807) else false then some (Ex.norm, [AV.hp 0 0, AV.rf 6 kF, AV.rf 1 kI1, iA d, iA (IntKind.i64.wrap (e + 1))], [bV f g 1 2 i j k, Blk.row kI1 a, Blk.tbl kF b none, Blk.dead, Blk.row kF (c ++ rn35_5_2 d e f g i j k a b c)]) else none else none else none else none else none else some (Ex.exit 0, [AV.rf 6 kF], [bV f g 1 2 i j k, Blk.row kI1 a, Blk.tbl kF b none, Blk.dead, Blk.row kF c])) (by kernel_rfl) ?_
 unfold go35_5 nx35_5_1 nx35_5_9 xc35_5_0
 generalize (decide ((c.length + (rn35_5_2 d e f g i j k a b c).length) * 72 ≤ 140737488355328)) = c0
 generalize (decide (c.length + (rn35_5_2 d e f g i j k a b c).length ≤ 9223372036854775807)) = c1
 generalize (decide (0 ≤ e) && decide (e < (↑a.length : Int))) = c2
 generalize (((rn35_5_1 d e f g i j k a b c).length * 32).ble 140737488355328) = c3
 generalize (hasK b (rn35_5_0 d e f g i j k a b c)) = c4
 generalize (decide (e < d)) = c5
 cases c5; rfl; cases c2; rfl; cases c4; rfl; cases c3; rfl; cases c0; rfl; cases c1; rfl; rfl
abbrev pl35_5 : Type := Int × Int × Int × LL × Int × Int × LL × LL
abbrev sl35_5 : Type := Int × LL
noncomputable def vt35_5 (a : pl35_5 × sl35_5) : List AV := [AV.hp 0 0, AV.rf 6 kF, AV.rf 1 kI1, iA a.1.1, iA a.2.1]
noncomputable def vc35_5 (a : pl35_5 × sl35_5) : List Blk := [bV a.1.2.1 a.1.2.2.1 1 2 a.1.2.2.2.1 a.1.2.2.2.2.1 a.1.2.2.2.2.2.1, Blk.row kI1 a.1.2.2.2.2.2.2.1, Blk.tbl kF a.1.2.2.2.2.2.2.2 none, Blk.dead, Blk.row kF a.2.2]
noncomputable def de35_5 (vt : List AV) (vc : List Blk) : Option (pl35_5 × sl35_5) :=
 match vt with
 | [qa0, qa1, qa2, qa3, qa4] => (match vc with
 | [qb0, qb1, qb2, qb3, qb4] => (match qa0 with
 | AV.hp (0) (0) => (match qa1 with
 | AV.rf (6) [.int .i64, .int .i64, .int .i64, .int .i64, .int .i64, .int .i64, .sl [.int .i64, .int .i64, .int .i64, .int .i64]] => (match qa2 with
 | AV.rf (1) [.int .i64] => (match qa3 with
 | .int .i64 t13 => (match qa4 with
 | .int .i64 t14 => (match qb0 with
 | .var [.int .i64 b0_0, .int .i64 b0_1, AV.rf (1) [.int .i64], AV.mp (2) [.int .i64, .int .i64, .int .i64, .int .i64, .int .i64, .int .i64, .sl [.int .i64, .int .i64, .int .i64, .int .i64]], .sl Tk.imm [.int .i64, .int .i64] b0_4, .int .i64 b0_5, .int .i64 b0_6] => (match qb1 with
 | .row [.int .i64] b1 => (match qb2 with
 | Blk.tbl [.int .i64, .int .i64, .int .i64, .int .i64, .int .i64, .int .i64, .sl [.int .i64, .int .i64, .int .i64, .int .i64]] b2 none => (match qb3 with
 | Blk.dead => (match qb4 with
 | .row [.int .i64, .int .i64, .int .i64, .int .i64, .int .i64, .int .i64, .sl [.int .i64, .int .i64, .int .i64, .int .i64]] b6 => (some ((t13, b0_0, b0_1, b0_4, b0_5, b0_6, b1, b2), (t14, b6)))
 | _ => none)
 | _ => none)
 | _ => none)
 | _ => none)
 | _ => none)
 | _ => none)
 | _ => none)
 | _ => none)
 | _ => none)
 | _ => none)
 | _ => none)
 | _ => none
theorem de35_5_ok (vt : List AV) (vc : List Blk) (a : pl35_5 × sl35_5) (h : de35_5 vt vc = some a) : vt = vt35_5 a ∧ vc = vc35_5 a := by
 unfold de35_5 at h
 iterate 12 (split at h; rotate_left; · cases h)
 injection h with h; subst h; exact ⟨rfl, rfl⟩
noncomputable def g35_5 (p : pl35_5) (s : sl35_5) : Bool := go35_5 p.1 s.1 p.2.1 p.2.2.1 p.2.2.2.1 p.2.2.2.2.1 p.2.2.2.2.2.1 p.2.2.2.2.2.2.1 p.2.2.2.2.2.2.2 s.2
noncomputable def n35_5 (p : pl35_5) (s : sl35_5) : sl35_5 := (nx35_5_1 p.1 s.1 p.2.1 p.2.2.1 p.2.2.2.1 p.2.2.2.2.1 p.2.2.2.2.2.1 p.2.2.2.2.2.2.1 p.2.2.2.2.2.2.2 s.2, nx35_5_9 p.1 s.1 p.2.1 p.2.2.1 p.2.2.2.1 p.2.2.2.2.1 p.2.2.2.2.2.1 p.2.2.2.2.2.2.1 p.2.2.2.2.2.2.2 s.2)
noncomputable def y35_5 (p : pl35_5) (s : sl35_5) : List (Bool × Out) := []
noncomputable def z35_5 (p : pl35_5) (s : sl35_5) : Bool := xc35_5_0 p.1 s.1 p.2.1 p.2.2.1 p.2.2.2.1 p.2.2.2.2.1 p.2.2.2.2.2.1 p.2.2.2.2.2.2.1 p.2.2.2.2.2.2.2 s.2
noncomputable def d35_5 (p : pl35_5) (s : sl35_5) : Out := (Ex.exit 0, [AV.rf 6 kF], [bV p.2.1 p.2.2.1 1 2 p.2.2.2.1 p.2.2.2.2.1 p.2.2.2.2.2.1, Blk.row kI1 p.2.2.2.2.2.2.1, Blk.tbl kF p.2.2.2.2.2.2.2 none, Blk.dead, Blk.row kF s.2])
noncomputable def ls35_5 := lspOf [0, 3, 12, 13, 14] [0, 1, 2, 3, 6] [3] [0, 1, 2, 3, 6] Try.f35.ntmps (3 + tab.nid 35) de35_5 (spI g35_5 n35_5 y35_5 z35_5 d35_5)
theorem lo35_5 (rest : Lsp) : lO k37 (selL 5 ls35_5 rest) 35 3 Try.f35 5 := LoopOK1.iter (i := 5) (by kernel_rfl) [0, 3, 12, 13, 14] [0, 1, 2, 3, 6] [3] [0, 1, 2, 3, 6] vt35_5 vc35_5 de35_5 g35_5 n35_5 y35_5 z35_5 d35_5 (fun _ => rfl) de35_5_ok (fun p s => rd35_5 (selL 5 ls35_5 rest) (p.1) (s.1) (p.2.1) (p.2.2.1) (p.2.2.2.1) (p.2.2.2.2.1) (p.2.2.2.2.2.1) (p.2.2.2.2.2.2.1) (p.2.2.2.2.2.2.2) (s.2)) (fun _ _ => rfl)
noncomputable def lsp35 : Lsp := (selL 5 ls35_5 noLsp)
theorem loops35 : ∀ c, Try.f35.body = some c → lsO k37 lsp35 35 3 Try.f35 c := loops_of [5] (by kernel_rfl) (by kernel_rfl) (fun i hi => by simp only [List.mem_cons, List.not_mem_nil, or_false] at hi; subst hi; exact lo35_5 noLsp)
noncomputable def rev35_0 (q lim t k : Int) (order es ready : LL) : sl35_5 := finL (g35_5 ((↑order.length : Int), q, lim, ready, t, k, order, es)) (n35_5 ((↑order.length : Int), q, lim, ready, t, k, order, es)) (0, [])
noncomputable def vev35_0 (q lim t k : Int) (order es ready : LL) : LL := (rev35_0 q lim t k order es ready).snd
noncomputable def vev35_1 (q lim t k : Int) (order es ready : LL) : Bool := bif (spI g35_5 n35_5 y35_5 z35_5 d35_5 (((↑order.length : Int), q, lim, ready, t, k, order, es), 0, [])).fst then true else false
theorem ev35 (q lim t k : Int) (order es ready : LL) : eF k37 lsp35 35 Try.f35 [.hp 0 0] (bS q lim ready t k order es) = bif vev35_1 q lim t k order es ready then some (true, AV.sl Tk.imm kF (vev35_0 q lim t k order es ready), (bS q lim ready t k order es)) else none := by
 refine Eq.trans (b := bif (spI g35_5 n35_5 y35_5 z35_5 d35_5 (((↑order.length : Int), q, lim, ready, t, k, order, es), 0, [])).fst then some (true, AV.sl Tk.imm kF (rev35_0 q lim t k order es ready).snd, (bS q lim ready t k order es)) else none) (by kernel_rfl) ?_
 unfold vev35_0 vev35_1
 generalize (spI g35_5 _ _ _ _ _).fst = c0
 cases c0
 ·skip
  rfl
 ·skip
  rfl
noncomputable def sp35 : Sp
 | [.hp 0 0], [.var [.int .i64 q, .int .i64 lim, .rf 1 [.int .i64], .mp 2 [.int .i64, .int .i64, .int .i64, .int .i64, .int .i64, .int .i64, .sl [.int .i64, .int .i64, .int .i64, .int .i64]], .sl .imm [.int .i64, .int .i64] ready, .int .i64 t, .int .i64 k], .row [.int .i64] order, .tbl [.int .i64, .int .i64, .int .i64, .int .i64, .int .i64, .int .i64, .sl [.int .i64, .int .i64, .int .i64, .int .i64]] es none] => spW (vev35_1 q lim t k order es ready) (some ((true, AV.sl Tk.imm kF (vev35_0 q lim t k order es ready), [.row [] []])))
 | _, _ => none
noncomputable def k35 : Gam := spG 35 sp35 k37
theorem k35_ok : GamOK Try.prog k35 := spG_ok k37_ok fun T C r outs hs => by
   unfold sp35 at hs
   split at hs
   ·rename_i q lim ready t k order es
    obtain ⟨hb, rfl, rfl⟩ := spT_inv hs
    have he := ev35 q lim t k order es ready
    rw [hb, cond_true] at he
    obtain ⟨r0, o0, h0, he⟩ := evFin_inv he
    obtain ⟨h1, h2⟩ := fn_ok mixed plain (gk_ok k37_ok 30) Try.func35 loops35 h0
    have h3 := h2.fin he
    exact ⟨h1, h3⟩
   ·cases hs
end Go.Proofs.Gv
namespace Go.Proofs.Gv
open Go.Proofs
noncomputable def vev63_0 (x c : Int) : Bool := x == c
theorem ev63 (x c : Int) : eF k35 noLsp 63 Try.f63 [iA x, .hp 0 0] [.var [iA c]] = some (true, AV.bool (vev63_0 x c), [Blk.var [iA c]]) := by kernel_rfl
noncomputable def sp63 : Sp
 | [.int .i64 x, .hp 0 0], [.var [.int .i64 c]] => spW (true) (some ((true, AV.bool (vev63_0 x c), [Blk.var [iA c]])))
 | _, _ => none
noncomputable def k63 : Gam := spG 63 sp63 k35
theorem k63_ok : GamOK Try.prog k63 := spG_ok k35_ok fun T C r outs hs => by
   unfold sp63 at hs
   split at hs
   ·rename_i x c
    obtain ⟨hb, rfl, rfl⟩ := spT_inv hs
    have he := ev63 x c
    obtain ⟨r0, o0, h0, he⟩ := evFin_inv he
    obtain ⟨h1, h2⟩ := fn_ok mixed plain (gk_ok k35_ok 30) Try.func63 (fun c _ => LoopsOK.none (fun _ _ => rfl) c) h0
    exact ⟨h1, h2.fin he⟩
   ·cases hs
noncomputable def go96_2 (d : Tk) (a : LL) (b c e : Int) : Bool := bif decide (c < b) then bif decide (0 ≤ c) && decide (c < (↑a.length : Int)) then bif vev63_0 (intOf ((a.getD c.toNat []).getD 0 AV.junk)) e then false else true else false else false
noncomputable def nx96_2_3 (d : Tk) (a : LL) (b c e : Int) : Int := IntKind.i64.wrap (c + 1)
noncomputable def xc96_2_0 (d : Tk) (a : LL) (b c e : Int) : Bool := bif decide (c < b) then bif decide (0 ≤ c) && decide (c < (↑a.length : Int)) then vev63_0 (intOf ((a.getD c.toNat []).getD 0 AV.junk)) e else false else false
noncomputable def xc96_2_1 (d : Tk) (a : LL) (b c e : Int) : Bool := bif decide (c < b) then false else true
theorem rd96_2 (rest : Lsp) (d : Tk) (a : LL) (b c e : Int) : rV k63 rest 96 1 Try.f96 2 [0, 1, 7, 8] [0] [4] [0] [AV.sl d kI1 a, AV.fn 63 [AV.hp 0 0], iA b, iA c] [Blk.var [iA e]] = bif go96_2 d a b c e then some (Ex.norm, [AV.sl d kI1 a, AV.fn 63 [AV.hp 0 0], iA b, iA (nx96_2_3 d a b c e)], [Blk.var [iA e]]) else bif xc96_2_0 d a b c e then some (Ex.ret, [iA c], [Blk.var [iA e]]) else bif xc96_2_1 d a b c e then some (Ex.exit 0, [AV.junk], [Blk.var [iA e]]) else none := by
 refine Eq.trans (b := bif decide (c < b) then bif decide (0 ≤ c) && decide (c < (↑a.length : Int)) then bif vev63_0 (intOf ((a.getD c.toNat []).getD 0 AV.junk)) e then some (Ex.ret, [iA c], [Blk.var [iA e]]) else some (Ex.norm, [AV.sl d kI1 a, AV.fn 63 [AV.hp 0 0], iA b, iA (IntKind.i64.wrap (c + 1))], [Blk.var [iA e]]) else none else some (Ex.exit 0, [AV.junk], [Blk.var [iA e]])) (by kernel_rfl) ?_
 unfold go96_2 nx96_2_3 xc96_2_0 xc96_2_1
 generalize (decide (0 ≤ c) && decide (c < (↑a.length : Int))) = c0
 generalize (vev63_0 _ _) = c1
 generalize (decide (c < b)) = c2
 cases c2; rfl; cases c0; rfl; cases c1; rfl; rfl
abbrev pl96_2 : Type := Tk × LL × Int × Int
abbrev sl96_2 : Type := Int
noncomputable def vt96_2 (a : pl96_2 × sl96_2) : List AV := [AV.sl a.1.1 kI1 a.1.2.1, AV.fn 63 [AV.hp 0 0], iA a.1.2.2.1, iA a.2]
noncomputable def vc96_2 (a : pl96_2 × sl96_2) : List Blk := [Blk.var [iA a.1.2.2.2]]
noncomputable def de96_2 (vt : List AV) (vc : List Blk) : Option (pl96_2 × sl96_2) :=
 match vt with
 | [qa0, qa1, qa2, qa3] => (match vc with
 | [qb0] => (match qa0 with
 | .sl t0k [.int .i64] t0 => (match qa1 with
 | AV.fn (63) [AV.hp (0) (0)] => (match qa2 with
 | .int .i64 t7 => (match qa3 with
 | .int .i64 t8 => (match qb0 with
 | .var [.int .i64 b0_0] => (some ((t0k, t0, t7, b0_0), t8))
 | _ => none)
 | _ => none)
 | _ => none)
 | _ => none)
 | _ => none)
 | _ => none)
 | _ => none
theorem de96_2_ok (vt : List AV) (vc : List Blk) (a : pl96_2 × sl96_2) (h : de96_2 vt vc = some a) : vt = vt96_2 a ∧ vc = vc96_2 a := by
 unfold de96_2 at h
 iterate 7 (split at h; rotate_left; · cases h)
 injection h with h; subst h; exact ⟨rfl, rfl⟩
noncomputable def g96_2 (p : pl96_2) (s : sl96_2) : Bool := go96_2 p.1 p.2.1 p.2.2.1 s p.2.2.2
noncomputable def n96_2 (p : pl96_2) (s : sl96_2) : sl96_2 := nx96_2_3 p.1 p.2.1 p.2.2.1 s p.2.2.2
noncomputable def y96_2 (p : pl96_2) (s : sl96_2) : List (Bool × Out) := [(xc96_2_0 p.1 p.2.1 p.2.2.1 s p.2.2.2, (Ex.ret, [iA s], [Blk.var [iA p.2.2.2]]))]
noncomputable def z96_2 (p : pl96_2) (s : sl96_2) : Bool := xc96_2_1 p.1 p.2.1 p.2.2.1 s p.2.2.2
noncomputable def d96_2 (p : pl96_2) (s : sl96_2) : Out := (Ex.exit 0, [AV.junk], [Blk.var [iA p.2.2.2]])
noncomputable def ls96_2 := lspOf [0, 1, 7, 8] [0] [4] [0] Try.f96.ntmps (1 + tab.nid 96) de96_2 (spI g96_2 n96_2 y96_2 z96_2 d96_2)
theorem lo96_2 (rest : Lsp) : lO k63 (selL 2 ls96_2 rest) 96 1 Try.f96 2 := LoopOK1.iter (i := 2) (by kernel_rfl) [0, 1, 7, 8] [0] [4] [0] vt96_2 vc96_2 de96_2 g96_2 n96_2 y96_2 z96_2 d96_2 (fun _ => rfl) de96_2_ok (fun p s => rd96_2 (selL 2 ls96_2 rest) (p.1) (p.2.1) (p.2.2.1) s (p.2.2.2)) (fun _ _ => rfl)
noncomputable def lsp96 : Lsp := (selL 2 ls96_2 noLsp)
theorem loops96 : ∀ c, Try.f96.body = some c → lsO k63 lsp96 96 1 Try.f96 c := loops_of [2] (by kernel_rfl) (by kernel_rfl) (fun i hi => by simp only [List.mem_cons, List.not_mem_nil, or_false] at hi; subst hi; exact lo96_2 noLsp)
noncomputable def rev96_0 (tk : Tk) (es : LL) (c : Int) : sl96_2 := finL (g96_2 (tk, es, (↑es.length : Int), c)) (n96_2 (tk, es, (↑es.length : Int), c)) 0
noncomputable def vev96_0 (tk : Tk) (es : LL) (c : Int) : sl96_2 := bif xc96_2_0 tk es (↑es.length : Int) (rev96_0 tk es c) c then rev96_0 tk es c else (-1)
noncomputable def vev96_1 (tk : Tk) (es : LL) (c : Int) : Bool := bif (spI g96_2 n96_2 y96_2 z96_2 d96_2 ((tk, es, (↑es.length : Int), c), 0)).fst then true else false
theorem ev96 (tk : Tk) (es : LL) (c : Int) : eF k63 lsp96 96 Try.f96 [.sl tk kI1 es, .fn 63 [.hp 0 0]] [.var [iA c]] = bif vev96_1 tk es c then some (true, iA (vev96_0 tk es c), [Blk.var [iA c]]) else none := by
 refine Eq.trans (b := bif (spI g96_2 n96_2 y96_2 z96_2 d96_2 ((tk, es, (↑es.length : Int), c), 0)).fst then bif xc96_2_0 tk es (↑es.length : Int) (rev96_0 tk es c) c then some (true, iA (rev96_0 tk es c), [Blk.var [iA c]]) else some (true, iA (-1), [Blk.var [iA c]]) else none) (by kernel_rfl) ?_
 unfold vev96_0 vev96_1
 generalize (spI g96_2 _ _ _ _ _).fst = c0
 generalize (xc96_2_0 _ _ _ _ _) = c1
 cases c0; rfl; cases c1; rfl; rfl
noncomputable def sp96 : Sp
 | [.sl tk [.int .i64] es, .fn 63 [.hp 0 0]], [.var [.int .i64 c]] => spW (vev96_1 tk es c) (some ((true, iA (vev96_0 tk es c), [Blk.var [iA c]])))
 | _, _ => none
noncomputable def k96 : Gam := spG 96 sp96 k63
theorem k96_ok : GamOK Try.prog k96 := spG_ok k63_ok fun T C r outs hs => by
   unfold sp96 at hs
   split at hs
   ·exact okE k63_ok Try.func96 loops96 (ev96 _ _ _) hs
   ·cases hs
noncomputable def rn62_5_0 (b c : Int) (a : LL) (d : Int) : Int := intOf ((a.getD c.toNat []).getD 0 AV.junk)
noncomputable def go62_5 (b c : Int) (a : LL) (d : Int) : Bool := bif decide (c < (↑a.length : Int)) then bif decide (0 ≤ c) && decide (c < (↑a.length : Int)) then bif !vev63_0 (rn62_5_0 b c a d) d then decide (0 ≤ b) && decide (b < (↑a.length : Int)) else true else false else false
noncomputable def nx62_5_0 (b c : Int) (a : LL) (d : Int) : Int := bif !vev63_0 (rn62_5_0 b c a d) d then IntKind.i64.wrap (b + 1) else b
noncomputable def nx62_5_1 (b c : Int) (a : LL) (d : Int) : Int := IntKind.i64.wrap (c + 1)
noncomputable def nx62_5_2 (b c : Int) (a : LL) (d : Int) : LL := bif !vev63_0 (rn62_5_0 b c a d) d then a.set b.toNat [iA (rn62_5_0 b c a d)] else a
noncomputable def xc62_5_0 (b c : Int) (a : LL) (d : Int) : Bool := bif decide (c < (↑a.length : Int)) then false else true
theorem rd62_5 (rest : Lsp) (b c : Int) (a : LL) (d : Int) : rV k96 rest 62 2 Try.f62 5 [0, 1, 5, 6] [0, 1] [0, 5] [0, 1] [AV.rf 0 kI1, AV.fn 63 [AV.hp 1 0], iA b, iA c] [Blk.row kI1 a, Blk.var [iA d]] = bif go62_5 b c a d then some (Ex.norm, [AV.rf 0 kI1, AV.fn 63 [AV.hp 1 0], iA (nx62_5_0 b c a d), iA (nx62_5_1 b c a d)], [Blk.row kI1 (nx62_5_2 b c a d), Blk.var [iA d]]) else bif xc62_5_0 b c a d then some (Ex.exit 0, [AV.rf 0 kI1, iA b], [Blk.row kI1 a, Blk.var [iA d]]) else none := by
 refine Eq.trans (b := bif decide (c < (↑a.length : Int)) then bif decide (0 ≤ c) && decide (c < (↑a.length : Int)) then bif !vev63_0 (rn62_5_0 b c a d) d then bif decide (0 ≤ b) && decide (b < (↑a.length : Int)) then some (Ex.norm, [AV.rf 0 kI1, AV.fn 63 [AV.hp 1 0], iA (IntKind.i64.wrap (b + 1)), iA (IntKind.i64.wrap (c + 1))], [Blk.row kI1 (a.set b.toNat [iA (rn62_5_0 b c a d)]), Blk.var [iA d]]) else none else some (Ex.norm, [AV.rf 0 kI1, AV.fn 63 [AV.hp 1 0], iA b, iA (IntKind.i64.wrap (c + 1))], [Blk.row kI1 a, Blk.var [iA d]]) else none else some (Ex.exit 0, [AV.rf 0 kI1, iA b], [Blk.row kI1 a, Blk.var [iA d]])) (by kernel_rfl) ?_
 unfold go62_5 nx62_5_0 nx62_5_1 nx62_5_2 xc62_5_0
 generalize (decide (0 ≤ b) && decide (b < (↑a.length : Int))) = c0
 generalize (decide (0 ≤ c) && decide (c < (↑a.length : Int))) = c1
 generalize (decide (c < (↑a.length : Int))) = c2
 generalize (!vev63_0 _ _) = c3
 cases c2; rfl; cases c1; rfl; cases c3; rfl; cases c0; rfl; rfl
abbrev pl62_5 : Type := Int
abbrev sl62_5 : Type := Int × Int × LL
noncomputable def vt62_5 (a : pl62_5 × sl62_5) : List AV := [AV.rf 0 kI1, AV.fn 63 [AV.hp 1 0], iA a.2.1, iA a.2.2.1]
noncomputable def vc62_5 (a : pl62_5 × sl62_5) : List Blk := [Blk.row kI1 a.2.2.2, Blk.var [iA a.1]]
noncomputable def de62_5 (vt : List AV) (vc : List Blk) : Option (pl62_5 × sl62_5) :=
 match vt with
 | [qa0, qa1, qa2, qa3] => (match vc with
 | [qb0, qb1] => (match qa0 with
 | AV.rf (0) [.int .i64] => (match qa1 with
 | AV.fn (63) [AV.hp (1) (0)] => (match qa2 with
 | .int .i64 t5 => (match qa3 with
 | .int .i64 t6 => (match qb0 with
 | .row [.int .i64] b0 => (match qb1 with
 | .var [.int .i64 b1_0] => (some (b1_0, (t5, t6, b0)))
 | _ => none)
 | _ => none)
 | _ => none)
 | _ => none)
 | _ => none)
 | _ => none)
 | _ => none)
 | _ => none
theorem de62_5_ok (vt : List AV) (vc : List Blk) (a : pl62_5 × sl62_5) (h : de62_5 vt vc = some a) : vt = vt62_5 a ∧ vc = vc62_5 a := by
 unfold de62_5 at h
 iterate 8 (split at h; rotate_left; · cases h)
 injection h with h; subst h; exact ⟨rfl, rfl⟩
noncomputable def g62_5 (p : pl62_5) (s : sl62_5) : Bool := go62_5 s.1 s.2.1 s.2.2 p
noncomputable def n62_5 (p : pl62_5) (s : sl62_5) : sl62_5 := (nx62_5_0 s.1 s.2.1 s.2.2 p, nx62_5_1 s.1 s.2.1 s.2.2 p, nx62_5_2 s.1 s.2.1 s.2.2 p)
noncomputable def y62_5 (p : pl62_5) (s : sl62_5) : List (Bool × Out) := []
noncomputable def z62_5 (p : pl62_5) (s : sl62_5) : Bool := xc62_5_0 s.1 s.2.1 s.2.2 p
noncomputable def d62_5 (p : pl62_5) (s : sl62_5) : Out := (Ex.exit 0, [AV.rf 0 kI1, iA s.1], [Blk.row kI1 s.2.2, Blk.var [iA p]])
noncomputable def ls62_5 := lspOf [0, 1, 5, 6] [0, 1] [0, 5] [0, 1] Try.f62.ntmps (2 + tab.nid 62) de62_5 (spI g62_5 n62_5 y62_5 z62_5 d62_5)
theorem lo62_5 (rest : Lsp) : lO k96 (selL 5 ls62_5 rest) 62 2 Try.f62 5 := LoopOK1.iter (i := 5) (by kernel_rfl) [0, 1, 5, 6] [0, 1] [0, 5] [0, 1] vt62_5 vc62_5 de62_5 g62_5 n62_5 y62_5 z62_5 d62_5 (fun _ => rfl) de62_5_ok (fun p s => rd62_5 (selL 5 ls62_5 rest) (s.1) (s.2.1) (s.2.2) p) (fun _ _ => rfl)
noncomputable def lsp62 : Lsp := (selL 5 ls62_5 noLsp)
theorem loops62 : ∀ c, Try.f62.body = some c → lsO k96 lsp62 62 2 Try.f62 c := loops_of [5] (by kernel_rfl) (by kernel_rfl) (fun i hi => by simp only [List.mem_cons, List.not_mem_nil, or_false] at hi; subst hi; exact lo62_5 noLsp)
noncomputable def rev62_0 (es : LL) (c : Int) : sl62_5 := finL (g62_5 c) (n62_5 c) (vev96_0 Tk.lent es c, IntKind.i64.wrap (vev96_0 Tk.lent es c + 1), es)
noncomputable def rev62_1 (es : LL) (c : Int) : Int := (rev62_0 es c).fst
noncomputable def rev62_2 (es : LL) (c : Int) : LL := (rev62_0 es c).snd.snd
noncomputable def rev62_3 (es : LL) (c : Int) : Int := (↑(rev62_2 es c).length : Int)
noncomputable def rev62_4 (es : LL) (c : Int) : LL := List.take (rev62_1 es c).toNat (rev62_2 es c) ++ List.replicate ((rev62_2 es c).length - (rev62_1 es c).toNat) [iA 0] ++ List.drop ((rev62_1 es c).toNat + ((rev62_2 es c).length - (rev62_1 es c).toNat)) (rev62_2 es c)
noncomputable def vev62_0 (es : LL) (c : Int) : Nat := bif vev96_0 Tk.lent es c == (-1) then es.length else (rev62_1 es c).toNat
noncomputable def vev62_1 (es : LL) (c : Int) : Nat := bif vev96_0 Tk.lent es c == (-1) then es.length else (rev62_4 es c).length
noncomputable def vev62_2 (es : LL) (c : Int) : LL := bif vev96_0 Tk.lent es c == (-1) then es else rev62_4 es c
noncomputable def vev62_3 (es : LL) (c : Int) : Bool := bif vev96_1 Tk.lent es c then bif vev96_0 Tk.lent es c == (-1) then true else bif (spI g62_5 n62_5 y62_5 z62_5 d62_5 (c, vev96_0 Tk.lent es c, IntKind.i64.wrap (vev96_0 Tk.lent es c + 1), es)).fst then bif bnd (rev62_1 es c) (rev62_3 es c) (rev62_3 es c) then bif bnd 0 (rev62_1 es c) (↑(rev62_4 es c).length : Int) then true else false else false else false else false
theorem ev62 (es : LL) (c : Int) : eF k96 lsp62 62 Try.f62 [.rf 0 kI1, .fn 63 [.hp 1 0]] [.row kI1 es, .var [iA c]] = bif vev62_3 es c then some (true, AV.rs 0 kI1 0 (vev62_0 es c) (vev62_1 es c), [Blk.row kI1 (vev62_2 es c), Blk.var [iA c]]) else none := by
 refine Eq.trans (b := bif vev96_1 Tk.lent es c then bif vev96_0 Tk.lent es c == (-1) then some (true, AV.rs 0 kI1 0 es.length es.length, [Blk.row kI1 es, Blk.var [iA c]]) else bif (spI g62_5 n62_5 y62_5 z62_5 d62_5 (c, vev96_0 Tk.lent es c, IntKind.i64.wrap (vev96_0 Tk.lent es c + 1), es)).fst then bif bnd (rev62_1 es c) (rev62_3 es c) (rev62_3 es c) then bif bnd 0 (rev62_1 es c) (↑(rev62_4 es c).length : Int) then some (true, AV.rs 0 kI1 0 (rev62_1 es c).toNat (rev62_4 es c).length, [Blk.row kI1 (rev62_4 es c), Blk.var [iA c]]) else none else none else none else none) (by kernel_rfl) ?_
 unfold vev62_0 vev62_1 vev62_2 vev62_3
 generalize (spI g62_5 _ _ _ _ _).fst = c0
 generalize (bnd 0 (rev62_1 es c) (↑(rev62_4 es c).length : Int)) = c1
 generalize (vev96_0 Tk.lent es c == (-1)) = c2
 generalize (bnd (rev62_1 es c) (rev62_3 es c) (rev62_3 es c)) = c3
 generalize (vev96_1 _ _ _) = c4
 cases c4; rfl; cases c2; cases c0; rfl; cases c3; rfl; cases c1; rfl; rfl; rfl
noncomputable def sp62 : Sp
 | [.rf 0 [.int .i64], .fn 63 [.hp 1 0]], [.row [.int .i64] es, .var [.int .i64 c]] => spW (vev62_3 es c) (some ((true, AV.rs 0 kI1 0 (vev62_0 es c) (vev62_1 es c), [Blk.row kI1 (vev62_2 es c), Blk.var [iA c]])))
 | _, _ => none
noncomputable def k62 : Gam := spG 62 sp62 k96
theorem k62_ok : GamOK Try.prog k62 := spG_ok k96_ok fun T C r outs hs => by
   unfold sp62 at hs
   split at hs
   ·exact okE k96_ok Try.func62 loops62 (ev62 _ _) hs
   ·cases hs
noncomputable def rev13_0 (q lim t k : Int) (order es ready : LL) (c n : Int) : LL := [[iA c]]
noncomputable def vev13_0 (q lim t k : Int) (order es ready : LL) (c n : Int) : Int := bif bif vev43_1 n != 0 then true else !vev42_0 c 0 2147483647 then 8 else bif hasK es c then 12 else bif decide ((↑es.length : Int) ≥ 8) then 7 else bif vev44_1 lim != 0 then vev44_1 lim else 0
noncomputable def vev13_1 (q lim t k : Int) (order es ready : LL) (c n : Int) : LL := bif bif vev43_1 n != 0 then true else !vev42_0 c 0 2147483647 then order else bif hasK es c then order else bif decide ((↑es.length : Int) ≥ 8) then order else bif vev44_1 lim != 0 then order else order ++ rev13_0 q lim t k order es ready c n
noncomputable def vev13_2 (q lim t k : Int) (order es ready : LL) (c n : Int) : LL := bif bif vev43_1 n != 0 then true else !vev42_0 c 0 2147483647 then es else bif hasK es c then es else bif decide ((↑es.length : Int) ≥ 8) then es else bif vev44_1 lim != 0 then es else es ++ [[iA c, iA c, iA (vev43_0 n), iA 0, iA 0, iA 0, iA (vev44_0 lim), AV.sl Tk.imm kI4 []]]
noncomputable def vev13_3 (q lim t k : Int) (order es ready : LL) (c n : Int) : Bool := bif bif vev43_1 n != 0 then true else !vev42_0 c 0 2147483647 then true else bif hasK es c then true else bif decide ((↑es.length : Int) ≥ 8) then true else bif vev44_1 lim != 0 then true else bif !hasK es c then bif bif decide ((order.length + (rev13_0 q lim t k order es ready c n).length) * 8 ≤ 140737488355328) then decide (order.length + (rev13_0 q lim t k order es ready c n).length ≤ 9223372036854775807) else false then true else false else false
theorem ev13 (q lim t k : Int) (order es ready : LL) (c n : Int) : evFun (cfg Try.prog tab 100000 (gk k62 30) noLsp 13 ((bS q lim ready t k order es) : List Blk).length Try.f13.ntmps) Try.f13 [.hp 0 0, iA c, iA n] (bS q lim ready t k order es) = bif vev13_3 q lim t k order es ready c n then some (iA (vev13_0 q lim t k order es ready c n), [bV q lim 3 4 ready t k, Blk.dead, Blk.dead, Blk.row kI1 (vev13_1 q lim t k order es ready c n), Blk.tbl kF (vev13_2 q lim t k order es ready c n) none]) else none := by
 refine Eq.trans (b := bif bif vev43_1 n != 0 then true else true then bif bif vev43_1 n != 0 then true else bif false then true else !vev42_0 c 0 2147483647 then some (iA 8, [bV q lim 3 4 ready t k, Blk.dead, Blk.dead, Blk.row kI1 order, Blk.tbl kF es none]) else bif hasK es c then some (iA 12, [bV q lim 3 4 ready t k, Blk.dead, Blk.dead, Blk.row kI1 order, Blk.tbl kF es none]) else bif decide ((↑es.length : Int) ≥ 8) then some (iA 7, [bV q lim 3 4 ready t k, Blk.dead, Blk.dead, Blk.row kI1 order, Blk.tbl kF es none]) else bif vev44_1 lim != 0 then some (iA (vev44_1 lim), [bV q lim 3 4 ready t k, Blk.dead, Blk.dead, Blk.row kI1 order, Blk.tbl kF es none]) else bif !hasK es c then bif bif decide ((order.length + (rev13_0 q lim t k order es ready c n).length) * 8 ≤ 140737488355328) then decide (order.length + (rev13_0 q lim t k order es ready c n).length ≤ 9223372036854775807) else false then some (iA 0, [bV q lim 3 4 ready t k, Blk.dead, Blk.dead, Blk.row kI1 (order ++ rev13_0 q lim t k order es ready c n), Blk.tbl kF (es ++ [[iA c, iA c, iA (vev43_0 n), iA 0, iA 0, iA 0, iA (vev44_0 lim), AV.sl Tk.imm kI4 []]]) none]) else none else none else none) (by kernel_rfl) ?_
 unfold vev13_0 vev13_1 vev13_2 vev13_3
 generalize (decide ((order.length + (rev13_0 q lim t k order es ready c n).length) * 8 ≤ 140737488355328)) = c0
 generalize (decide (order.length + (rev13_0 q lim t k order es ready c n).length ≤ 9223372036854775807)) = c1
 generalize (decide ((↑es.length : Int) ≥ 8)) = c2
 generalize (!vev42_0 _ _ _) = c3
 generalize (vev44_1 lim != 0) = c4
 generalize (vev43_1 n != 0) = c5
 generalize (!hasK es c) = c6
 generalize (hasK es c) = c7
 cases c5; cases c3; cases c7; cases c2; cases c4; cases c6; rfl; cases c0; rfl; cases c1; rfl; rfl; rfl; rfl; rfl; rfl; rfl
noncomputable def sp13 : Sp
 | [.hp 0 0, .int .i64 c, .int .i64 n], [.var [.int .i64 q, .int .i64 lim, .rf 1 [.int .i64], .mp 2 [.int .i64, .int .i64, .int .i64, .int .i64, .int .i64, .int .i64, .sl [.int .i64, .int .i64, .int .i64, .int .i64]], .sl .imm [.int .i64, .int .i64] ready, .int .i64 t, .int .i64 k], .row [.int .i64] order, .tbl [.int .i64, .int .i64, .int .i64, .int .i64, .int .i64, .int .i64, .sl [.int .i64, .int .i64, .int .i64, .int .i64]] es none] => spW (vev13_3 q lim t k order es ready c n) (fin Try.prog (tab.frz 13) ((bS q lim ready t k order es) : List Blk).length Try.f13.resultTypes.toList (some ((iA (vev13_0 q lim t k order es ready c n), [bV q lim 3 4 ready t k, Blk.dead, Blk.dead, Blk.row kI1 (vev13_1 q lim t k order es ready c n), Blk.tbl kF (vev13_2 q lim t k order es ready c n) none]))))
 | _, _ => none
noncomputable def k13 : Gam := spG 13 sp13 k62
theorem k13_ok : GamOK Try.prog k13 := spG_ok k62_ok fun T C r outs hs => by
   unfold sp13 at hs
   split at hs
   ·rename_i c n q lim ready t k order es
    obtain ⟨hb, hs⟩ := spW_inv hs
    have he := ev13 q lim t k order es ready c n
    rw [hb, cond_true] at he
    obtain ⟨h1, h2⟩ := fn_ok mixed plain (gk_ok k62_ok 30) Try.func13 (fun c _ => LoopsOK.none (fun _ _ => rfl) c) he
    exact ⟨h1, h2.fin hs⟩
   ·cases hs
noncomputable def rev15_0 (q lim t k : Int) (order es ready : LL) (c i n z : Int) : Int := intOf ((List.drop 1 (getK es c)).getD (0 + 1 + 1 + 1 + 1 + 1) AV.junk)
noncomputable def rev15_1 (q lim t k : Int) (order es ready : LL) (c i n z : Int) : LL := elsO ((List.drop 1 (getK es c)).getD (0 + 1 + 1 + 1 + 1 + 1 + 1) AV.junk)
noncomputable def rev15_2 (q lim t k : Int) (order es ready : LL) (c i n z : Int) : Int := vev47_1 (rev15_0 q lim t k order es ready c i n z) (rev15_1 q lim t k order es ready c i n z) i n z
noncomputable def rev15_3 (q lim t k : Int) (order es ready : LL) (c i n z : Int) : Int := IntKind.i64.wrap (IntKind.i64.wrap (1099511627776 - k) - vev34_0 q lim t k order es ready)
noncomputable def rev15_4 (q lim t k : Int) (order es ready : LL) (c i n z : Int) : Int := intOf ((List.drop 1 (getK es c)).getD (0 + 1) AV.junk)
noncomputable def rev15_5 (q lim t k : Int) (order es ready : LL) (c i n z : Int) : Int := intOf ((List.drop 1 (getK es c)).getD (0 + 1 + 1) AV.junk)
noncomputable def rev15_6 (q lim t k : Int) (order es ready : LL) (c i n z : Int) : Int := intOf ((List.drop 1 (getK es c)).getD (0 + 1 + 1 + 1) AV.junk)
noncomputable def rev15_7 (q lim t k : Int) (order es ready : LL) (c i n z : Int) : Int := intOf ((List.drop 1 (getK es c)).getD (0 + 1 + 1 + 1 + 1) AV.junk)
noncomputable def rev15_8 (q lim t k : Int) (order es ready : LL) (c i n z : Int) : LL := setK es c [iA c, iA (intOf ((List.drop 1 (getK es c)).getD 0 AV.junk)), iA (rev15_4 q lim t k order es ready c i n z), iA (vev49_0 t (rev15_4 q lim t k order es ready c i n z) (rev15_5 q lim t k order es ready c i n z) (rev15_6 q lim t k order es ready c i n z) (rev15_7 q lim t k order es ready c i n z)), iA (rev15_6 q lim t k order es ready c i n z), iA (rev15_7 q lim t k order es ready c i n z), iA (rev15_0 q lim t k order es ready c i n z), AV.sl Tk.imm kI4 (rev15_1 q lim t k order es ready c i n z)]
noncomputable def rev15_9 (q lim t k : Int) (order es ready : LL) (c i n z : Int) : Int := intOf ((List.drop 1 (getK (rev15_8 q lim t k order es ready c i n z) c)).getD (0 + 1 + 1) AV.junk)
noncomputable def vev15_0 (q lim t k : Int) (order es ready : LL) (c i n z : Int) : Int := bif hasK es c then bif rev15_2 q lim t k order es ready c i n z != 0 then rev15_2 q lim t k order es ready c i n z else bif decide (z > rev15_3 q lim t k order es ready c i n z) then 7 else 0 else 6
noncomputable def vev15_1 (q lim t k : Int) (order es ready : LL) (c i n z : Int) : LL := bif hasK es c then bif rev15_2 q lim t k order es ready c i n z != 0 then ready else bif decide (z > rev15_3 q lim t k order es ready c i n z) then ready else bif !vev48_0 c es then vev50_0 Tk.imm ready (rev15_9 q lim t k order es ready c i n z) c else ready else ready
noncomputable def vev15_2 (q lim t k : Int) (order es ready : LL) (c i n z : Int) : LL := bif hasK es c then bif rev15_2 q lim t k order es ready c i n z != 0 then es else bif decide (z > rev15_3 q lim t k order es ready c i n z) then es else bif !vev48_0 c es then setK (rev15_8 q lim t k order es ready c i n z) c [iA c, iA (intOf ((List.drop 1 (getK (rev15_8 q lim t k order es ready c i n z) c)).getD 0 AV.junk)), iA (intOf ((List.drop 1 (getK (rev15_8 q lim t k order es ready c i n z) c)).getD (0 + 1) AV.junk)), iA (rev15_9 q lim t k order es ready c i n z), iA (intOf ((List.drop 1 (getK (rev15_8 q lim t k order es ready c i n z) c)).getD (0 + 1 + 1 + 1) AV.junk)), iA (intOf ((List.drop 1 (getK (rev15_8 q lim t k order es ready c i n z) c)).getD (0 + 1 + 1 + 1 + 1) AV.junk)), iA (rev15_0 q lim t k order es ready c i n z), AV.sl Tk.imm kI4 (vev47_0 (rev15_0 q lim t k order es ready c i n z) (rev15_1 q lim t k order es ready c i n z) i n z)] else setK es c [iA c, iA (intOf ((List.drop 1 (getK es c)).getD 0 AV.junk)), iA (rev15_4 q lim t k order es ready c i n z), iA (rev15_5 q lim t k order es ready c i n z), iA (rev15_6 q lim t k order es ready c i n z), iA (rev15_7 q lim t k order es ready c i n z), iA (rev15_0 q lim t k order es ready c i n z), AV.sl Tk.imm kI4 (vev47_0 (rev15_0 q lim t k order es ready c i n z) (rev15_1 q lim t k order es ready c i n z) i n z)] else es
noncomputable def vev15_3 (q lim t k : Int) (order es ready : LL) (c i n z : Int) : Bool := bif hasK es c then bif vev47_2 (rev15_0 q lim t k order es ready c i n z) (rev15_1 q lim t k order es ready c i n z) i n z then bif rev15_2 q lim t k order es ready c i n z != 0 then true else bif vev34_1 q lim t k order es ready then bif decide (z > rev15_3 q lim t k order es ready c i n z) then true else bif vev48_1 c es then bif !vev48_0 c es then bif (List.brecOn.go (motive := fun x => (List AV → Bool) → Bool) (rev15_8 q lim t k order es ready c i n z) List.any._f).1 fun e => keyA e == c then bif vev50_1 Tk.imm ready (rev15_9 q lim t k order es ready c i n z) c then true else false else false else true else false else false else false else true
theorem ev15 (q lim t k : Int) (order es ready : LL) (c i n z : Int) : eF k13 noLsp 15 Try.f15 [.hp 0 0, iA c, iA i, iA n, iA z] (bS q lim ready t k order es) = bif vev15_3 q lim t k order es ready c i n z then some (true, iA (vev15_0 q lim t k order es ready c i n z), (bS q lim (vev15_1 q lim t k order es ready c i n z) t k order (vev15_2 q lim t k order es ready c i n z))) else none := by
 refine Eq.trans (b := bif hasK es c then bif hasK es c then bif vev47_2 (rev15_0 q lim t k order es ready c i n z) (rev15_1 q lim t k order es ready c i n z) i n z then bif rev15_2 q lim t k order es ready c i n z != 0 then some (true, iA (rev15_2 q lim t k order es ready c i n z), (bS q lim ready t k order es)) else bif vev34_1 q lim t k order es ready then bif decide (z > rev15_3 q lim t k order es ready c i n z) then some (true, iA 7, (bS q lim ready t k order es)) else bif vev48_1 c es then bif !vev48_0 c es then bif hasK es c then bif hasK es c then bif (List.brecOn.go (motive := fun x => (List AV → Bool) → Bool) (rev15_8 q lim t k order es ready c i n z) List.any._f).1 fun e => keyA e == c then bif vev50_1 Tk.imm ready (rev15_9 q lim t k order es ready c i n z) c then bif (List.brecOn.go (motive := fun x => (List AV → Bool) → Bool) (rev15_8 q lim t k order es ready c i n z) List.any._f).1 fun e => keyA e == c then some (true, iA 0, (bS q lim (vev50_0 Tk.imm ready (rev15_9 q lim t k order es ready c i n z) c) t k order (setK (rev15_8 q lim t k order es ready c i n z) c [iA c, iA (intOf ((List.drop 1 (getK (rev15_8 q lim t k order es ready c i n z) c)).getD 0 AV.junk)), iA (intOf ((List.drop 1 (getK (rev15_8 q lim t k order es ready c i n z) c)).getD (0 + 1) AV.junk)), iA (rev15_9 q lim t k order es ready c i n z), iA (intOf ((List.drop 1 (getK (rev15_8 q lim t k order es ready c i n z) c)).getD (0 + 1 + 1 + 1) AV.junk)), iA (intOf ((List.drop 1 (getK (rev15_8 q lim t k order es ready c i n z) c)).getD (0 + 1 + 1 + 1 + 1) AV.junk)), iA (rev15_0 q lim t k order es ready c i n z), AV.sl Tk.imm kI4 (vev47_0 (rev15_0 q lim t k order es ready c i n z) (rev15_1 q lim t k order es ready c i n z) i n z)]))) else none else none else none else none else none else bif hasK es c then some (true, iA 0, (bS q lim ready t k order (setK es c [iA c, iA (intOf ((List.drop 1 (getK es c)).getD 0 AV.junk)), iA (rev15_4 q lim t k order es ready c i n z), iA (rev15_5 q lim t k order es ready c i n z), iA (rev15_6 q lim t k order es ready c i n z), iA (rev15_7 q lim t k order es ready c i n z), iA (rev15_0 q lim t k order es ready c i n z), AV.sl Tk.imm kI4 (vev47_0 (rev15_0 q lim t k order es ready c i n z) (rev15_1 q lim t k order es ready c i n z) i n z)]))) else none else none else none else none else none else some (true, iA 6, (bS q lim ready t k order es))) (by kernel_rfl) ?_
 unfold vev15_0 vev15_1 vev15_2 vev15_3
 generalize ((List.brecOn.go (motive := fun x => (List AV → Bool) → Bool) (rev15_8 q lim t k order es ready c i n z) List.any._f).1 fun e => keyA e == c) = c0
 generalize (decide (z > rev15_3 q lim t k order es ready c i n z)) = c1
 generalize (vev47_2 _ _ _ _ _) = c2
 generalize (rev15_2 q lim t k order es ready c i n z != 0) = c3
 generalize (vev50_1 _ _ _ _) = c4
 generalize (vev34_1 _ _ _ _ _ _ _) = c5
 generalize (!vev48_0 _ _) = c6
 generalize (hasK es c) = c7
 generalize (vev48_1 _ _) = c8
 cases c7; rfl; cases c2; rfl; cases c3; cases c5; rfl; cases c1; cases c8; rfl; cases c6; rfl; cases c0; rfl; cases c4; rfl; rfl; rfl; rfl
noncomputable def sp15 : Sp
 | [.hp 0 0, .int .i64 c, .int .i64 i, .int .i64 n, .int .i64 z], [.var [.int .i64 q, .int .i64 lim, .rf 1 [.int .i64], .mp 2 [.int .i64, .int .i64, .int .i64, .int .i64, .int .i64, .int .i64, .sl [.int .i64, .int .i64, .int .i64, .int .i64]], .sl .imm [.int .i64, .int .i64] ready, .int .i64 t, .int .i64 k], .row [.int .i64] order, .tbl [.int .i64, .int .i64, .int .i64, .int .i64, .int .i64, .int .i64, .sl [.int .i64, .int .i64, .int .i64, .int .i64]] es none] => spW (vev15_3 q lim t k order es ready c i n z) (some ((true, iA (vev15_0 q lim t k order es ready c i n z), (bS q lim (vev15_1 q lim t k order es ready c i n z) t k order (vev15_2 q lim t k order es ready c i n z)))))
 | _, _ => none
noncomputable def k15 : Gam := spG 15 sp15 k13
theorem k15_ok : GamOK Try.prog k15 := spG_ok k13_ok fun T C r outs hs => by
   unfold sp15 at hs
   split at hs
   ·exact okE k13_ok Try.func15 (fun c _ => LoopsOK.none (fun _ _ => rfl) c) (ev15 _ _ _ _ _ _ _ _ _ _ _) hs
   ·cases hs
noncomputable def vev61_0 (q lim t k : Int) (order es ready : LL) (c : Int) : Bool := bif vev95_2 Tk.imm ready c then true else false
theorem ev61 (q lim t k : Int) (order es ready : LL) (c : Int) : eF k15 noLsp 61 Try.f61 [.hp 0 0, iA c] (bS q lim ready t k order es) = bif vev61_0 q lim t k order es ready c then some (true, AV.tup [], (bS q lim (vev95_0 Tk.imm ready c) t k order es)) else none := by
 refine Eq.trans (b := bif vev95_2 Tk.imm ready c then some (true, AV.tup [], (bS q lim (vev95_0 Tk.imm ready c) t k order es)) else none) (by kernel_rfl) ?_
 unfold vev61_0
 generalize (vev95_2 _ _ _) = c0
 cases c0
 ·skip
  rfl
 ·skip
  rfl
noncomputable def sp61 : Sp
 | [.hp 0 0, .int .i64 c], [.var [.int .i64 q, .int .i64 lim, .rf 1 [.int .i64], .mp 2 [.int .i64, .int .i64, .int .i64, .int .i64, .int .i64, .int .i64, .sl [.int .i64, .int .i64, .int .i64, .int .i64]], .sl .imm [.int .i64, .int .i64] ready, .int .i64 t, .int .i64 k], .row [.int .i64] order, .tbl [.int .i64, .int .i64, .int .i64, .int .i64, .int .i64, .int .i64, .sl [.int .i64, .int .i64, .int .i64, .int .i64]] es none] => spW (vev61_0 q lim t k order es ready c) (some ((true, AV.tup [], (bS q lim (vev95_0 Tk.imm ready c) t k order es))))
 | _, _ => none
noncomputable def k61 : Gam := spG 61 sp61 k15
theorem k61_ok : GamOK Try.prog k61 := spG_ok k15_ok fun T C r outs hs => by
   unfold sp61 at hs
   split at hs
   ·exact okE k15_ok Try.func61 (fun c _ => LoopsOK.none (fun _ _ => rfl) c) (ev61 _ _ _ _ _ _ _ _) hs
   ·cases hs
noncomputable def rev29_0 (q lim t k : Int) (order es ready : LL) (c i : Int) : Int := intOf ((List.drop 1 (getK es c)).getD (0 + 1 + 1 + 1 + 1 + 1) AV.junk)
noncomputable def rev29_1 (q lim t k : Int) (order es ready : LL) (c i : Int) : LL := elsO ((List.drop 1 (getK es c)).getD (0 + 1 + 1 + 1 + 1 + 1 + 1) AV.junk)
noncomputable def rev29_2 (q lim t k : Int) (order es ready : LL) (c i : Int) : LL := setK es c [iA c, iA (intOf ((List.drop 1 (getK es c)).getD 0 AV.junk)), iA (intOf ((List.drop 1 (getK es c)).getD (0 + 1) AV.junk)), iA (intOf ((List.drop 1 (getK es c)).getD (0 + 1 + 1) AV.junk)), iA (intOf ((List.drop 1 (getK es c)).getD (0 + 1 + 1 + 1) AV.junk)), iA (intOf ((List.drop 1 (getK es c)).getD (0 + 1 + 1 + 1 + 1) AV.junk)), iA (rev29_0 q lim t k order es ready c i), AV.sl Tk.imm kI4 (vev64_0 (rev29_0 q lim t k order es ready c i) (rev29_1 q lim t k order es ready c i) i)]
noncomputable def vev29_0 (q lim t k : Int) (order es ready : LL) (c i : Int) : Int := bif hasK es c then bif !vev64_1 (rev29_0 q lim t k order es ready c i) (rev29_1 q lim t k order es ready c i) i then 6 else 0 else 6
noncomputable def vev29_1 (q lim t k : Int) (order es ready : LL) (c i : Int) : LL := bif hasK es c then bif !vev64_1 (rev29_0 q lim t k order es ready c i) (rev29_1 q lim t k order es ready c i) i then ready else bif bif vev48_0 c (rev29_2 q lim t k order es ready c i) then false else true then vev95_0 Tk.imm ready c else ready else ready
noncomputable def vev29_2 (q lim t k : Int) (order es ready : LL) (c i : Int) : LL := bif hasK es c then bif !vev64_1 (rev29_0 q lim t k order es ready c i) (rev29_1 q lim t k order es ready c i) i then es else rev29_2 q lim t k order es ready c i else es
noncomputable def vev29_3 (q lim t k : Int) (order es ready : LL) (c i : Int) : Bool := bif hasK es c then bif vev64_2 (rev29_0 q lim t k order es ready c i) (rev29_1 q lim t k order es ready c i) i then bif !vev64_1 (rev29_0 q lim t k order es ready c i) (rev29_1 q lim t k order es ready c i) i then true else bif vev48_1 c (rev29_2 q lim t k order es ready c i) then bif bif vev48_0 c (rev29_2 q lim t k order es ready c i) then false else true then bif vev61_0 q lim t k order (rev29_2 q lim t k order es ready c i) ready c then true else false else true else false else false else true
theorem ev29 (q lim t k : Int) (order es ready : LL) (c i : Int) : eF k61 noLsp 29 Try.f29 [.hp 0 0, iA c, iA i] (bS q lim ready t k order es) = bif vev29_3 q lim t k order es ready c i then some (true, iA (vev29_0 q lim t k order es ready c i), (bS q lim (vev29_1 q lim t k order es ready c i) t k order (vev29_2 q lim t k order es ready c i))) else none := by
 refine Eq.trans (b := bif hasK es c then bif hasK es c then bif vev64_2 (rev29_0 q lim t k order es ready c i) (rev29_1 q lim t k order es ready c i) i then bif !vev64_1 (rev29_0 q lim t k order es ready c i) (rev29_1 q lim t k order es ready c i) i then some (true, iA 6, (bS q lim ready t k order es)) else bif hasK es c then bif vev48_1 c (rev29_2 q lim t k order es ready c i) then bif bif vev48_0 c (rev29_2 q lim t k order es ready c i) then false else true then bif vev61_0 q lim t k order (rev29_2 q lim t k order es ready c i) ready c then some (true, iA 0, (bS q lim (vev95_0 Tk.imm ready c) t k order (rev29_2 q lim t k order es ready c i))) else none else some (true, iA 0, (bS q lim ready t k order (rev29_2 q lim t k order es ready c i))) else none else none else none else none else some (true, iA 6, (bS q lim ready t k order es))) (by kernel_rfl) ?_
 unfold vev29_0 vev29_1 vev29_2 vev29_3
 generalize (!vev64_1 _ _ _) = c0
 generalize (vev64_2 _ _ _) = c1
 generalize (vev61_0 _ _ _ _ _ _ _ _) = c2
 generalize (vev48_0 _ _) = c3
 generalize (vev48_1 _ _) = c4
 generalize (hasK es c) = c5
 cases c5; rfl; cases c1; rfl; cases c0; cases c4; rfl; cases c3; cases c2; rfl; rfl; rfl; rfl
noncomputable def sp29 : Sp
 | [.hp 0 0, .int .i64 c, .int .i64 i], [.var [.int .i64 q, .int .i64 lim, .rf 1 [.int .i64], .mp 2 [.int .i64, .int .i64, .int .i64, .int .i64, .int .i64, .int .i64, .sl [.int .i64, .int .i64, .int .i64, .int .i64]], .sl .imm [.int .i64, .int .i64] ready, .int .i64 t, .int .i64 k], .row [.int .i64] order, .tbl [.int .i64, .int .i64, .int .i64, .int .i64, .int .i64, .int .i64, .sl [.int .i64, .int .i64, .int .i64, .int .i64]] es none] => spW (vev29_3 q lim t k order es ready c i) (some ((true, iA (vev29_0 q lim t k order es ready c i), (bS q lim (vev29_1 q lim t k order es ready c i) t k order (vev29_2 q lim t k order es ready c i)))))
 | _, _ => none
noncomputable def k29 : Gam := spG 29 sp29 k61
theorem k29_ok : GamOK Try.prog k29 := spG_ok k61_ok fun T C r outs hs => by
   unfold sp29 at hs
   split at hs
   ·exact okE k61_ok Try.func29 (fun c _ => LoopsOK.none (fun _ _ => rfl) c) (ev29 _ _ _ _ _ _ _ _ _) hs
   ·cases hs
noncomputable def rev31_0 (q lim t k : Int) (order es ready : LL) : Int := intOf ((List.drop 1 (getK es (vev66_2 Tk.imm ready))).getD (0 + 1 + 1 + 1 + 1 + 1) AV.junk)
noncomputable def rev31_1 (q lim t k : Int) (order es ready : LL) : LL := elsO ((List.drop 1 (getK es (vev66_2 Tk.imm ready))).getD (0 + 1 + 1 + 1 + 1 + 1 + 1) AV.junk)
noncomputable def rev31_2 (q lim t k : Int) (order es ready : LL) : Int := intOf ((List.drop 1 (getK es (vev66_2 Tk.imm ready))).getD (0 + 1) AV.junk)
noncomputable def rev31_3 (q lim t k : Int) (order es ready : LL) : Int := intOf ((List.drop 1 (getK es (vev66_2 Tk.imm ready))).getD (0 + 1 + 1) AV.junk)
noncomputable def rev31_4 (q lim t k : Int) (order es ready : LL) : Int := intOf ((List.drop 1 (getK es (vev66_2 Tk.imm ready))).getD (0 + 1 + 1 + 1) AV.junk)
noncomputable def rev31_5 (q lim t k : Int) (order es ready : LL) : Int := intOf ((List.drop 1 (getK es (vev66_2 Tk.imm ready))).getD (0 + 1 + 1 + 1 + 1) AV.junk)
noncomputable def rev31_6 (q lim t k : Int) (order es ready : LL) : Int := vev67_5 (rev31_0 q lim t k order es ready) (rev31_1 q lim t k order es ready) q
noncomputable def rev31_7 (q lim t k : Int) (order es ready : LL) : LL := setK es (vev66_2 Tk.imm ready) [iA (vev66_2 Tk.imm ready), iA (intOf ((List.drop 1 (getK es (vev66_2 Tk.imm ready))).getD 0 AV.junk)), iA (rev31_2 q lim t k order es ready), iA (rev31_3 q lim t k order es ready), iA (rev31_4 q lim t k order es ready), iA (rev31_5 q lim t k order es ready), iA (rev31_0 q lim t k order es ready), AV.sl Tk.imm kI4 (vev67_0 (rev31_0 q lim t k order es ready) (rev31_1 q lim t k order es ready) q)]
noncomputable def rev31_8 (q lim t k : Int) (order es ready : LL) : Int := vev68_1 t (rev31_2 q lim t k order es ready) (rev31_3 q lim t k order es ready) (rev31_4 q lim t k order es ready) (rev31_5 q lim t k order es ready) (rev31_6 q lim t k order es ready)
noncomputable def rev31_9 (q lim t k : Int) (order es ready : LL) : LL := setK (rev31_7 q lim t k order es ready) (vev66_2 Tk.imm ready) [iA (vev66_2 Tk.imm ready), iA (intOf ((List.drop 1 (getK (rev31_7 q lim t k order es ready) (vev66_2 Tk.imm ready))).getD 0 AV.junk)), iA (rev31_2 q lim t k order es ready), iA (rev31_8 q lim t k order es ready), iA (vev68_2 t (rev31_2 q lim t k order es ready) (rev31_3 q lim t k order es ready) (rev31_4 q lim t k order es ready) (rev31_5 q lim t k order es ready) (rev31_6 q lim t k order es ready)), iA (vev68_3 t (rev31_2 q lim t k order es ready) (rev31_3 q lim t k order es ready) (rev31_4 q lim t k order es ready) (rev31_5 q lim t k order es ready) (rev31_6 q lim t k order es ready)), iA (intOf ((List.drop 1 (getK (rev31_7 q lim t k order es ready) (vev66_2 Tk.imm ready))).getD (0 + 1 + 1 + 1 + 1 + 1) AV.junk)), AV.sl Tk.imm kI4 (elsO ((List.drop 1 (getK (rev31_7 q lim t k order es ready) (vev66_2 Tk.imm ready))).getD (0 + 1 + 1 + 1 + 1 + 1 + 1) AV.junk))]
noncomputable def rev31_10 (q lim t k : Int) (order es ready : LL) : Int := intOf ((List.drop 1 (getK (rev31_9 q lim t k order es ready) (vev66_2 Tk.imm ready))).getD 0 AV.junk)
noncomputable def vev31_0 (q lim t k : Int) (order es ready : LL) : Int := bif !vev66_3 Tk.imm ready then 0 else bif vev68_4 t (rev31_2 q lim t k order es ready) (rev31_3 q lim t k order es ready) (rev31_4 q lim t k order es ready) (rev31_5 q lim t k order es ready) (rev31_6 q lim t k order es ready) != 0 then 0 else rev31_10 q lim t k order es ready
noncomputable def vev31_1 (q lim t k : Int) (order es ready : LL) : Int := bif !vev66_3 Tk.imm ready then 0 else bif vev68_4 t (rev31_2 q lim t k order es ready) (rev31_3 q lim t k order es ready) (rev31_4 q lim t k order es ready) (rev31_5 q lim t k order es ready) (rev31_6 q lim t k order es ready) != 0 then 0 else vev67_1 (rev31_0 q lim t k order es ready) (rev31_1 q lim t k order es ready) q
noncomputable def vev31_2 (q lim t k : Int) (order es ready : LL) : Int := bif !vev66_3 Tk.imm ready then 0 else bif vev68_4 t (rev31_2 q lim t k order es ready) (rev31_3 q lim t k order es ready) (rev31_4 q lim t k order es ready) (rev31_5 q lim t k order es ready) (rev31_6 q lim t k order es ready) != 0 then 0 else rev31_6 q lim t k order es ready
noncomputable def vev31_3 (q lim t k : Int) (order es ready : LL) : Int := bif !vev66_3 Tk.imm ready then 0 else bif vev68_4 t (rev31_2 q lim t k order es ready) (rev31_3 q lim t k order es ready) (rev31_4 q lim t k order es ready) (rev31_5 q lim t k order es ready) (rev31_6 q lim t k order es ready) != 0 then 0 else vev67_3 (rev31_0 q lim t k order es ready) (rev31_1 q lim t k order es ready) q
noncomputable def vev31_4 (q lim t k : Int) (order es ready : LL) : Bool := bif !vev66_3 Tk.imm ready then false else bif vev68_4 t (rev31_2 q lim t k order es ready) (rev31_3 q lim t k order es ready) (rev31_4 q lim t k order es ready) (rev31_5 q lim t k order es ready) (rev31_6 q lim t k order es ready) != 0 then false else true
noncomputable def vev31_5 (q lim t k : Int) (order es ready : LL) : LL := bif !vev66_3 Tk.imm ready then ready else bif vev68_4 t (rev31_2 q lim t k order es ready) (rev31_3 q lim t k order es ready) (rev31_4 q lim t k order es ready) (rev31_5 q lim t k order es ready) (rev31_6 q lim t k order es ready) != 0 then ready else bif vev48_0 (vev66_2 Tk.imm ready) (rev31_9 q lim t k order es ready) then vev50_0 Tk.imm (vev66_0 Tk.imm ready) (rev31_8 q lim t k order es ready) (rev31_10 q lim t k order es ready) else vev66_0 Tk.imm ready
noncomputable def vev31_6 (q lim t k : Int) (order es ready : LL) : Int := bif !vev66_3 Tk.imm ready then t else bif vev68_4 t (rev31_2 q lim t k order es ready) (rev31_3 q lim t k order es ready) (rev31_4 q lim t k order es ready) (rev31_5 q lim t k order es ready) (rev31_6 q lim t k order es ready) != 0 then t else vev68_0 t (rev31_2 q lim t k order es ready) (rev31_3 q lim t k order es ready) (rev31_4 q lim t k order es ready) (rev31_5 q lim t k order es ready) (rev31_6 q lim t k order es ready)
noncomputable def vev31_7 (q lim t k : Int) (order es ready : LL) : Int := bif !vev66_3 Tk.imm ready then k else bif vev68_4 t (rev31_2 q lim t k order es ready) (rev31_3 q lim t k order es ready) (rev31_4 q lim t k order es ready) (rev31_5 q lim t k order es ready) (rev31_6 q lim t k order es ready) != 0 then k else IntKind.i64.wrap (k + rev31_6 q lim t k order es ready)
noncomputable def vev31_8 (q lim t k : Int) (order es ready : LL) : LL := bif !vev66_3 Tk.imm ready then es else bif vev68_4 t (rev31_2 q lim t k order es ready) (rev31_3 q lim t k order es ready) (rev31_4 q lim t k order es ready) (rev31_5 q lim t k order es ready) (rev31_6 q lim t k order es ready) != 0 then es else rev31_9 q lim t k order es ready
noncomputable def vev31_9 (q lim t k : Int) (order es ready : LL) : Bool := bif vev66_4 Tk.imm ready then bif !vev66_3 Tk.imm ready then true else bif hasK es (vev66_2 Tk.imm ready) then bif vev67_6 (rev31_0 q lim t k order es ready) (rev31_1 q lim t k order es ready) q then bif vev68_5 t (rev31_2 q lim t k order es ready) (rev31_3 q lim t k order es ready) (rev31_4 q lim t k order es ready) (rev31_5 q lim t k order es ready) (rev31_6 q lim t k order es ready) then bif vev68_4 t (rev31_2 q lim t k order es ready) (rev31_3 q lim t k order es ready) (rev31_4 q lim t k order es ready) (rev31_5 q lim t k order es ready) (rev31_6 q lim t k order es ready) != 0 then true else bif (List.brecOn.go (motive := fun x => (List AV → Bool) → Bool) (rev31_7 q lim t k order es ready) List.any._f).1 fun e => keyA e == vev66_2 Tk.imm ready then bif vev48_1 (vev66_2 Tk.imm ready) (rev31_9 q lim t k order es ready) then bif vev48_0 (vev66_2 Tk.imm ready) (rev31_9 q lim t k order es ready) then bif (List.brecOn.go (motive := fun x => (List AV → Bool) → Bool) (rev31_9 q lim t k order es ready) List.any._f).1 fun e => keyA e == vev66_2 Tk.imm ready then bif vev50_1 Tk.imm (vev66_0 Tk.imm ready) (rev31_8 q lim t k order es ready) (rev31_10 q lim t k order es ready) then true else false else false else bif (List.brecOn.go (motive := fun x => (List AV → Bool) → Bool) (rev31_9 q lim t k order es ready) List.any._f).1 fun e => keyA e == vev66_2 Tk.imm ready then true else false else false else false else false else false else false else false
theorem ev31 (q lim t k : Int) (order es ready : LL) : eF k29 noLsp 31 Try.f31 [.hp 0 0] (bS q lim ready t k order es) = bif vev31_9 q lim t k order es ready then some (true, AV.tup [AV.agg [iA (vev31_0 q lim t k order es ready), iA (vev31_1 q lim t k order es ready), iA (vev31_2 q lim t k order es ready), iA (vev31_3 q lim t k order es ready)], AV.bool (vev31_4 q lim t k order es ready)], (bS q lim (vev31_5 q lim t k order es ready) (vev31_6 q lim t k order es ready) (vev31_7 q lim t k order es ready) order (vev31_8 q lim t k order es ready))) else none := by
 refine Eq.trans (b := bif vev66_4 Tk.imm ready then bif !vev66_3 Tk.imm ready then some (true, AV.tup [AV.agg [iA 0, iA 0, iA 0, iA 0], AV.bool false], (bS q lim ready t k order es)) else bif hasK es (vev66_2 Tk.imm ready) then bif hasK es (vev66_2 Tk.imm ready) then bif vev67_6 (rev31_0 q lim t k order es ready) (rev31_1 q lim t k order es ready) q then bif hasK es (vev66_2 Tk.imm ready) then bif vev68_5 t (rev31_2 q lim t k order es ready) (rev31_3 q lim t k order es ready) (rev31_4 q lim t k order es ready) (rev31_5 q lim t k order es ready) (rev31_6 q lim t k order es ready) then bif vev68_4 t (rev31_2 q lim t k order es ready) (rev31_3 q lim t k order es ready) (rev31_4 q lim t k order es ready) (rev31_5 q lim t k order es ready) (rev31_6 q lim t k order es ready) != 0 then some (true, AV.tup [AV.agg [iA 0, iA 0, iA 0, iA 0], AV.bool false], (bS q lim ready t k order es)) else bif hasK es (vev66_2 Tk.imm ready) then bif (List.brecOn.go (motive := fun x => (List AV → Bool) → Bool) (rev31_7 q lim t k order es ready) List.any._f).1 fun e => keyA e == vev66_2 Tk.imm ready then bif vev48_1 (vev66_2 Tk.imm ready) (rev31_9 q lim t k order es ready) then bif vev48_0 (vev66_2 Tk.imm ready) (rev31_9 q lim t k order es ready) then bif (List.brecOn.go (motive := fun x => (List AV → Bool) → Bool) (rev31_9 q lim t k order es ready) List.any._f).1 fun e => keyA e == vev66_2 Tk.imm ready then bif vev50_1 Tk.imm (vev66_0 Tk.imm ready) (rev31_8 q lim t k order es ready) (rev31_10 q lim t k order es ready) then bif (List.brecOn.go (motive := fun x => (List AV → Bool) → Bool) (rev31_9 q lim t k order es ready) List.any._f).1 fun e => keyA e == vev66_2 Tk.imm ready then some (true, AV.tup [AV.agg [iA (rev31_10 q lim t k order es ready), iA (vev67_1 (rev31_0 q lim t k order es ready) (rev31_1 q lim t k order es ready) q), iA (rev31_6 q lim t k order es ready), iA (vev67_3 (rev31_0 q lim t k order es ready) (rev31_1 q lim t k order es ready) q)], AV.bool true], (bS q lim (vev50_0 Tk.imm (vev66_0 Tk.imm ready) (rev31_8 q lim t k order es ready) (rev31_10 q lim t k order es ready)) (vev68_0 t (rev31_2 q lim t k order es ready) (rev31_3 q lim t k order es ready) (rev31_4 q lim t k order es ready) (rev31_5 q lim t k order es ready) (rev31_6 q lim t k order es ready)) (IntKind.i64.wrap (k + rev31_6 q lim t k order es ready)) order (rev31_9 q lim t k order es ready))) else none else none else none else bif (List.brecOn.go (motive := fun x => (List AV → Bool) → Bool) (rev31_9 q lim t k order es ready) List.any._f).1 fun e => keyA e == vev66_2 Tk.imm ready then some (true, AV.tup [AV.agg [iA (rev31_10 q lim t k order es ready), iA (vev67_1 (rev31_0 q lim t k order es ready) (rev31_1 q lim t k order es ready) q), iA (rev31_6 q lim t k order es ready), iA (vev67_3 (rev31_0 q lim t k order es ready) (rev31_1 q lim t k order es ready) q)], AV.bool true], (bS q lim (vev66_0 Tk.imm ready) (vev68_0 t (rev31_2 q lim t k order es ready) (rev31_3 q lim t k order es ready) (rev31_4 q lim t k order es ready) (rev31_5 q lim t k order es ready) (rev31_6 q lim t k order es ready)) (IntKind.i64.wrap (k + rev31_6 q lim t k order es ready)) order (rev31_9 q lim t k order es ready))) else none else none else none else none else none else none else none else none else none else none) (by kernel_rfl) ?_
 unfold vev31_0 vev31_1 vev31_2 vev31_3 vev31_4 vev31_5 vev31_6 vev31_7 vev31_8 vev31_9
 generalize (vev68_4 t (rev31_2 q lim t k order es ready) (rev31_3 q lim t k order es ready) (rev31_4 q lim t k order es ready) (rev31_5 q lim t k order es ready) (rev31_6 q lim t k order es ready) != 0) = c0
 generalize (vev68_5 _ _ _ _ _ _) = c1
 generalize ((List.brecOn.go (motive := fun x => (List AV → Bool) → Bool) (rev31_7 q lim t k order es ready) List.any._f).1 fun e => keyA e == vev66_2 Tk.imm ready) = c2
 generalize ((List.brecOn.go (motive := fun x => (List AV → Bool) → Bool) (rev31_9 q lim t k order es ready) List.any._f).1 fun e => keyA e == vev66_2 Tk.imm ready) = c3
 generalize (vev50_1 _ _ _ _) = c4
 generalize (vev67_6 _ _ _) = c5
 generalize (vev48_0 _ _) = c6
 generalize (vev48_1 _ _) = c7
 generalize (hasK es (vev66_2 Tk.imm ready)) = c8
 generalize (!vev66_3 _ _) = c9
 generalize (vev66_4 _ _) = c10
 cases c10; rfl; cases c9; cases c8; rfl; cases c5; rfl; cases c1; rfl; cases c0; cases c2; rfl; cases c7; rfl; cases c6; cases c3; rfl; rfl
 cases c3; rfl; cases c4; rfl; rfl; rfl; rfl
noncomputable def sp31 : Sp
 | [.hp 0 0], [.var [.int .i64 q, .int .i64 lim, .rf 1 [.int .i64], .mp 2 [.int .i64, .int .i64, .int .i64, .int .i64, .int .i64, .int .i64, .sl [.int .i64, .int .i64, .int .i64, .int .i64]], .sl .imm [.int .i64, .int .i64] ready, .int .i64 t, .int .i64 k], .row [.int .i64] order, .tbl [.int .i64, .int .i64, .int .i64, .int .i64, .int .i64, .int .i64, .sl [.int .i64, .int .i64, .int .i64, .int .i64]] es none] => spW (vev31_9 q lim t k order es ready) (some ((true, AV.tup [AV.agg [iA (vev31_0 q lim t k order es ready), iA (vev31_1 q lim t k order es ready), iA (vev31_2 q lim t k order es ready), iA (vev31_3 q lim t k order es ready)], AV.bool (vev31_4 q lim t k order es ready)], (bS q lim (vev31_5 q lim t k order es ready) (vev31_6 q lim t k order es ready) (vev31_7 q lim t k order es ready) order (vev31_8 q lim t k order es ready)))))
 | _, _ => none
noncomputable def k31 : Gam := spG 31 sp31 k29
theorem k31_ok : GamOK Try.prog k31 := spG_ok k29_ok fun T C r outs hs => by
   unfold sp31 at hs
   split at hs
   ·exact okE k29_ok Try.func31 (fun c _ => LoopsOK.none (fun _ _ => rfl) c) (ev31 _ _ _ _ _ _ _) hs
   ·cases hs
end Go.Proofs.Gv
