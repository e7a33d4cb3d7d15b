import Derived.Test.YthnbpgiohimkoaaPs32
import Derived.Test.YthnbpgiohimkoaaPs35
import Derived.Test.YthnbpgiohimkoaaPs27
import Derived.KernelRfl
import Derived.Test.YthnbpgiohimkoaaPs30
import Derived.Test.YthnbpgiohimkoaaPs31
set_option linter.unusedVariables false
namespace Go.Proofs.Gv
open Go.Proofs
noncomputable def vev89_0 (a b c d : Int) : Bool := bif decide (a ≥ 1) then bif bif true then decide (a ≤ 2147483647) else false then bif bif true then decide (b ≥ 0) else false then bif bif true then decide (b ≤ 7) else false then bif bif true then decide (c ≥ 1) else false then bif bif true then decide (c ≤ 1099511627776) else false then bif bif true then decide (d ≥ 0) else false then bif true then decide (d ≤ 2000) else false else false else false else false else false else false else false else false
noncomputable def go90_2 (a b c : Int) (e : Tk) (d : LL) : Bool := bif decide (b < (↑d.length : Int)) then bif decide (0 ≤ b) && decide (b < (↑d.length : Int)) then bif intOf ((d.getD b.toNat []).getD 0 AV.junk) == a then false else true else false else false
noncomputable def nx90_2_1 (a b c : Int) (e : Tk) (d : LL) : Int := IntKind.i64.wrap (b + 1)
noncomputable def xc90_2_0 (a b c : Int) (e : Tk) (d : LL) : Bool := bif decide (b < (↑d.length : Int)) then bif decide (0 ≤ b) && decide (b < (↑d.length : Int)) then intOf ((d.getD b.toNat []).getD 0 AV.junk) == a else false else false
noncomputable def xc90_2_1 (a b c : Int) (e : Tk) (d : LL) : Bool := bif decide (b < (↑d.length : Int)) then false else true
abbrev pl90_2 : Type := Int × Int × Tk × LL
abbrev sl90_2 : Type := Int
noncomputable def g90_2 (p : pl90_2) (s : sl90_2) : Bool := go90_2 p.1 s p.2.1 p.2.2.1 p.2.2.2
noncomputable def n90_2 (p : pl90_2) (s : sl90_2) : sl90_2 := nx90_2_1 p.1 s p.2.1 p.2.2.1 p.2.2.2
noncomputable def y90_2 (p : pl90_2) (s : sl90_2) : List (Bool × Out) := [(xc90_2_0 p.1 s p.2.1 p.2.2.1 p.2.2.2, (Ex.ret, [iA s], []))]
noncomputable def z90_2 (p : pl90_2) (s : sl90_2) : Bool := xc90_2_1 p.1 s p.2.1 p.2.2.1 p.2.2.2
noncomputable def d90_2 (p : pl90_2) (s : sl90_2) : Out := (Ex.exit 0, [AV.junk], [])
noncomputable def rev90_0 (l : Int) (tk : Tk) (es : LL) (id : Int) : sl90_2 := finL (g90_2 (id, l, tk, es)) (n90_2 (id, l, tk, es)) 0
noncomputable def vev90_0 (l : Int) (tk : Tk) (es : LL) (id : Int) : sl90_2 := bif xc90_2_0 id (rev90_0 l tk es id) l tk es then rev90_0 l tk es id else (-1)
noncomputable def vev90_1 (l : Int) (tk : Tk) (es : LL) (id : Int) : Bool := bif (spI g90_2 n90_2 y90_2 z90_2 d90_2 ((id, l, tk, es), 0)).fst then true else false
noncomputable def go88_6 (a b : Int) (d : Tk) (c : LL) : Bool := bif decide (a < (↑c.length : Int)) then bif decide (0 ≤ a) && decide (a < (↑c.length : Int)) then bif !vev89_0 (intOf ((c.getD a.toNat []).getD 0 AV.junk)) (intOf ((c.getD a.toNat []).getD (0 + 1) AV.junk)) (intOf ((c.getD a.toNat []).getD (0 + 1 + 1) AV.junk)) (intOf ((c.getD a.toNat []).getD (0 + 1 + 1 + 1) AV.junk)) then false else true else false else false
noncomputable def nx88_6_0 (a b : Int) (d : Tk) (c : LL) : Int := IntKind.i64.wrap (a + 1)
noncomputable def xc88_6_0 (a b : Int) (d : Tk) (c : LL) : Bool := bif decide (a < (↑c.length : Int)) then bif decide (0 ≤ a) && decide (a < (↑c.length : Int)) then !vev89_0 (intOf ((c.getD a.toNat []).getD 0 AV.junk)) (intOf ((c.getD a.toNat []).getD (0 + 1) AV.junk)) (intOf ((c.getD a.toNat []).getD (0 + 1 + 1) AV.junk)) (intOf ((c.getD a.toNat []).getD (0 + 1 + 1 + 1) AV.junk)) else false else false
noncomputable def xc88_6_1 (a b : Int) (d : Tk) (c : LL) : Bool := bif decide (a < (↑c.length : Int)) then false else true
abbrev pl88_6 : Type := Int × Tk × LL
abbrev sl88_6 : Type := Int
noncomputable def g88_6 (p : pl88_6) (s : sl88_6) : Bool := go88_6 s p.1 p.2.1 p.2.2
noncomputable def n88_6 (p : pl88_6) (s : sl88_6) : sl88_6 := nx88_6_0 s p.1 p.2.1 p.2.2
noncomputable def y88_6 (p : pl88_6) (s : sl88_6) : List (Bool × Out) := [(xc88_6_0 s p.1 p.2.1 p.2.2, (Ex.ret, [AV.hp 0 0, iA 8], [Blk.var [iA p.1, AV.sl p.2.1 kI4 p.2.2]]))]
noncomputable def z88_6 (p : pl88_6) (s : sl88_6) : Bool := xc88_6_1 s p.1 p.2.1 p.2.2
noncomputable def d88_6 (p : pl88_6) (s : sl88_6) : Out := (Ex.exit 1, [AV.hp 0 0, AV.junk], [Blk.var [iA p.1, AV.sl p.2.1 kI4 p.2.2]])
noncomputable def rn88_11_0 (a b : Int) (d : Tk) (c : LL) : Int := intOf ((c.getD a.toNat []).getD 0 AV.junk)
noncomputable def go88_11 (a b : Int) (d : Tk) (c : LL) : Bool := bif decide (a < (↑c.length : Int)) then bif decide (0 ≤ a) && decide (a < (↑c.length : Int)) then bif vev90_1 b d c (rn88_11_0 a b d c) then bif vev90_0 b d c (rn88_11_0 a b d c) != a then false else true else false else false else false
noncomputable def nx88_11_0 (a b : Int) (d : Tk) (c : LL) : Int := IntKind.i64.wrap (a + 1)
noncomputable def xc88_11_0 (a b : Int) (d : Tk) (c : LL) : Bool := bif decide (a < (↑c.length : Int)) then bif decide (0 ≤ a) && decide (a < (↑c.length : Int)) then bif vev90_1 b d c (rn88_11_0 a b d c) then vev90_0 b d c (rn88_11_0 a b d c) != a else false else false else false
noncomputable def xc88_11_1 (a b : Int) (d : Tk) (c : LL) : Bool := bif decide (a < (↑c.length : Int)) then false else true
abbrev pl88_11 : Type := Int × Tk × LL
abbrev sl88_11 : Type := Int
noncomputable def g88_11 (p : pl88_11) (s : sl88_11) : Bool := go88_11 s p.1 p.2.1 p.2.2
noncomputable def n88_11 (p : pl88_11) (s : sl88_11) : sl88_11 := nx88_11_0 s p.1 p.2.1 p.2.2
noncomputable def y88_11 (p : pl88_11) (s : sl88_11) : List (Bool × Out) := [(xc88_11_0 s p.1 p.2.1 p.2.2, (Ex.ret, [iA 12], []))]
noncomputable def z88_11 (p : pl88_11) (s : sl88_11) : Bool := xc88_11_1 s p.1 p.2.1 p.2.2
noncomputable def d88_11 (p : pl88_11) (s : sl88_11) : Out := (Ex.exit 3, [AV.junk], [])
noncomputable def rev88_0 (l : Int) (tk : Tk) (es : LL) : sl88_6 := finL (g88_6 (l, tk, es)) (n88_6 (l, tk, es)) 0
noncomputable def rev88_1 (l : Int) (tk : Tk) (es : LL) : sl88_11 := finL (g88_11 (l, tk, es)) (n88_11 (l, tk, es)) 0
noncomputable def vev88_0 (l : Int) (tk : Tk) (es : LL) : Int := bif bif decide (l < 1) then true else decide (l > 1000) then 8 else bif decide ((↑es.length : Int) > 16) then 7 else bif xc88_6_0 (rev88_0 l tk es) l tk es then 8 else bif xc88_11_0 (rev88_1 l tk es) l tk es then 12 else 0
noncomputable def vev88_1 (l : Int) (tk : Tk) (es : LL) : Bool := bif bif decide (l < 1) then true else decide (l > 1000) then true else bif decide ((↑es.length : Int) > 16) then true else bif (spI g88_6 n88_6 y88_6 z88_6 d88_6 ((l, tk, es), 0)).fst then bif xc88_6_0 (rev88_0 l tk es) l tk es then true else bif (spI g88_11 n88_11 y88_11 z88_11 d88_11 ((l, tk, es), 0)).fst then true else false else false
noncomputable def vev88n_0 (l : Int) : Int := bif bif decide (l < 1) then true else decide (l > 1000) then 8 else 0
noncomputable def go91_3 (a b c : Int) (e : Tk) (d : LL) : Bool := bif bif decide (b < (↑d.length : Int)) then vev88_1 c e d else true then bif bif decide (b < (↑d.length : Int)) then bif vev88_1 c e d then vev88_0 c e d == 0 else false else false then decide (0 ≤ b) && decide (b < (↑d.length : Int)) else false else false
noncomputable def nx91_3_0 (a b c : Int) (e : Tk) (d : LL) : Int := IntKind.i64.wrap (a + intOf ((d.getD b.toNat []).getD (0 + 1 + 1) AV.junk))
noncomputable def nx91_3_1 (a b c : Int) (e : Tk) (d : LL) : Int := IntKind.i64.wrap (b + 1)
noncomputable def xc91_3_0 (a b c : Int) (e : Tk) (d : LL) : Bool := bif bif decide (b < (↑d.length : Int)) then vev88_1 c e d else true then bif bif decide (b < (↑d.length : Int)) then bif vev88_1 c e d then vev88_0 c e d == 0 else false else false then false else true else false
abbrev pl91_3 : Type := Int × Tk × LL
abbrev sl91_3 : Type := Int × Int
noncomputable def g91_3 (p : pl91_3) (s : sl91_3) : Bool := go91_3 s.1 s.2 p.1 p.2.1 p.2.2
noncomputable def n91_3 (p : pl91_3) (s : sl91_3) : sl91_3 := (nx91_3_0 s.1 s.2 p.1 p.2.1 p.2.2, nx91_3_1 s.1 s.2 p.1 p.2.1 p.2.2)
noncomputable def y91_3 (p : pl91_3) (s : sl91_3) : List (Bool × Out) := []
noncomputable def z91_3 (p : pl91_3) (s : sl91_3) : Bool := xc91_3_0 s.1 s.2 p.1 p.2.1 p.2.2
noncomputable def d91_3 (p : pl91_3) (s : sl91_3) : Out := (Ex.exit 0, [iA s.1], [])
noncomputable def rev91_0 (l : Int) (tk : Tk) (es : LL) : sl91_3 := finL (g91_3 (l, tk, es)) (n91_3 (l, tk, es)) (0, 0)
noncomputable def vev91_0 (l : Int) (tk : Tk) (es : LL) : Int := (rev91_0 l tk es).fst
noncomputable def vev91_1 (l : Int) (tk : Tk) (es : LL) : Bool := bif (spI g91_3 n91_3 y91_3 z91_3 d91_3 ((l, tk, es), 0, 0)).fst then true else false
noncomputable def rev51_0 (l : Int) (es : LL) (id rank cost : Int) : LL := [[iA id, iA rank, iA cost, iA 0]]
noncomputable def vev51_0 (l : Int) (es : LL) (id rank cost : Int) : LL := bif vev88_0 l Tk.imm es != 0 then es else bif !vev89_0 id rank cost 0 then es else bif decide (vev90_0 l Tk.imm es id ≥ 0) then es else bif decide ((↑es.length : Int) ≥ 16) then es else es ++ rev51_0 l es id rank cost
noncomputable def vev51_1 (l : Int) (es : LL) (id rank cost : Int) : Int := bif vev88_0 l Tk.imm es != 0 then vev88_0 l Tk.imm es else bif !vev89_0 id rank cost 0 then 8 else bif decide (vev90_0 l Tk.imm es id ≥ 0) then 12 else bif decide ((↑es.length : Int) ≥ 16) then 7 else 0
noncomputable def vev51_2 (l : Int) (es : LL) (id rank cost : Int) : Bool := bif vev88_1 l Tk.imm es then bif vev88_0 l Tk.imm es != 0 then true else bif !vev89_0 id rank cost 0 then true else bif vev90_1 l Tk.imm es id then bif decide (vev90_0 l Tk.imm es id ≥ 0) then true else bif decide ((↑es.length : Int) ≥ 16) then true else bif bif decide (es.length * 32 ≤ 140737488355328) then decide (es.length ≤ 9223372036854775807) else false then bif bif decide ((es.length + (rev51_0 l es id rank cost).length) * 32 ≤ 140737488355328) then decide (es.length + (rev51_0 l es id rank cost).length ≤ 9223372036854775807) else false then true else false else false else false else false
noncomputable def rev98_0 (l : Int) (es : LL) (i : Int) : Int := IntKind.i64.wrap (i + 1)
noncomputable def rev98_1 (l : Int) (es : LL) (i : Int) : LL := List.drop (rev98_0 l es i).toNat es
noncomputable def vev98_0 (l : Int) (es : LL) (i : Int) : LL := List.take i.toNat es ++ rev98_1 l es i
noncomputable def vev98_1 (l : Int) (es : LL) (i : Int) : Bool := bif bnd 0 i (↑es.length : Int) then bif bif decide ((List.take i.toNat es).length * 32 ≤ 140737488355328) then decide ((List.take i.toNat es).length ≤ 9223372036854775807) else false then bif bnd (rev98_0 l es i) (↑es.length : Int) (↑es.length : Int) then bif bif decide (((List.take i.toNat es).length + (rev98_1 l es i).length) * 32 ≤ 140737488355328) then decide ((List.take i.toNat es).length + (rev98_1 l es i).length ≤ 9223372036854775807) else false then true else false else false else false else false
noncomputable def rev98l_0 (l : Int) (es : LL) (i : Int) : Int := IntKind.i64.wrap (i + 1)
noncomputable def rev98l_1 (l : Int) (es : LL) (i : Int) : LL := List.drop (rev98l_0 l es i).toNat es
noncomputable def vev98l_0 (l : Int) (es : LL) (i : Int) : LL := List.take i.toNat es ++ rev98l_1 l es i
noncomputable def vev98l_1 (l : Int) (es : LL) (i : Int) : Bool := bif bnd 0 i (↑es.length : Int) then bif bif decide ((List.take i.toNat es).length * 32 ≤ 140737488355328) then decide ((List.take i.toNat es).length ≤ 9223372036854775807) else false then bif bnd (rev98l_0 l es i) (↑es.length : Int) (↑es.length : Int) then bif bif decide (((List.take i.toNat es).length + (rev98l_1 l es i).length) * 32 ≤ 140737488355328) then decide ((List.take i.toNat es).length + (rev98l_1 l es i).length ≤ 9223372036854775807) else false then true else false else false else false else false
noncomputable def vev65_0 (l : Int) (es : LL) (id : Int) : LL := bif bif vev88_1 l Tk.imm es then bif vev88_0 l Tk.imm es != 0 then true else decide (vev90_0 l Tk.imm es id < 0) else false then es else vev98_0 l es (vev90_0 l Tk.imm es id)
noncomputable def vev65_1 (l : Int) (es : LL) (id : Int) : Bool := bif bif vev88_1 l Tk.imm es then bif vev88_0 l Tk.imm es != 0 then true else decide (vev90_0 l Tk.imm es id < 0) else false then false else true
noncomputable def vev65_2 (l : Int) (es : LL) (id : Int) : Bool := bif vev90_1 l Tk.imm es id then bif vev88_1 l Tk.imm es then bif bif vev88_1 l Tk.imm es then bif vev88_0 l Tk.imm es != 0 then true else decide (vev90_0 l Tk.imm es id < 0) else false then true else bif vev98_1 l es (vev90_0 l Tk.imm es id) then true else false else false else false
noncomputable def rn102_4_0 (a b : Int) (d : Tk) (c : LL) : Int := intOf ((c.getD a.toNat []).getD (0 + 1 + 1 + 1) AV.junk)
noncomputable def go102_4 (a b : Int) (d : Tk) (c : LL) : Bool := bif decide (a < (↑c.length : Int)) then bif decide (0 ≤ a) && decide (a < (↑c.length : Int)) then bif decide (rn102_4_0 a b d c ≥ b) then false else true else false else false
noncomputable def nx102_4_0 (a b : Int) (d : Tk) (c : LL) : Int := IntKind.i64.wrap (a + 1)
noncomputable def xc102_4_0 (a b : Int) (d : Tk) (c : LL) : Bool := bif decide (a < (↑c.length : Int)) then bif decide (0 ≤ a) && decide (a < (↑c.length : Int)) then decide (rn102_4_0 a b d c ≥ b) else false else false
noncomputable def xc102_4_1 (a b : Int) (d : Tk) (c : LL) : Bool := bif decide (a < (↑c.length : Int)) then false else true
abbrev pl102_4 : Type := Int × Tk × LL
abbrev sl102_4 : Type := Int
noncomputable def g102_4 (p : pl102_4) (s : sl102_4) : Bool := go102_4 s p.1 p.2.1 p.2.2
noncomputable def n102_4 (p : pl102_4) (s : sl102_4) : sl102_4 := nx102_4_0 s p.1 p.2.1 p.2.2
noncomputable def y102_4 (p : pl102_4) (s : sl102_4) : List (Bool × Out) := [(xc102_4_0 s p.1 p.2.1 p.2.2, (Ex.ret, [AV.hp 0 0, iA s], [Blk.var [iA p.1, AV.sl p.2.1 kI4 p.2.2]]))]
noncomputable def z102_4 (p : pl102_4) (s : sl102_4) : Bool := xc102_4_1 s p.1 p.2.1 p.2.2
noncomputable def d102_4 (p : pl102_4) (s : sl102_4) : Out := (Ex.exit 0, [AV.hp 0 0, AV.junk], [Blk.var [iA p.1, AV.sl p.2.1 kI4 p.2.2]])
noncomputable def rn102_10_0 (a b c : Int) (e : Tk) (d : LL) : Int := intOf ((d.getD b.toNat []).getD (0 + 1) AV.junk)
noncomputable def rn102_10_1 (a b c : Int) (e : Tk) (d : LL) : Int := intOf ((d.getD a.toNat []).getD (0 + 1) AV.junk)
noncomputable def go102_10 (a b c : Int) (e : Tk) (d : LL) : Bool := bif decide (b < (↑d.length : Int)) then bif decide (a < 0) then true else bif decide (0 ≤ b) && decide (b < (↑d.length : Int)) then decide (0 ≤ a) && decide (a < (↑d.length : Int)) else false else false
noncomputable def nx102_10_0 (a b c : Int) (e : Tk) (d : LL) : Int := bif bif decide (a < 0) then true else bif decide (0 ≤ b) && decide (b < (↑d.length : Int)) then bif decide (0 ≤ a) && decide (a < (↑d.length : Int)) then decide (rn102_10_0 a b c e d < rn102_10_1 a b c e d) else false else false then b else a
noncomputable def nx102_10_1 (a b c : Int) (e : Tk) (d : LL) : Int := IntKind.i64.wrap (b + 1)
noncomputable def xc102_10_0 (a b c : Int) (e : Tk) (d : LL) : Bool := bif decide (b < (↑d.length : Int)) then false else true
abbrev pl102_10 : Type := Int × Tk × LL
abbrev sl102_10 : Type := Int × Int
noncomputable def g102_10 (p : pl102_10) (s : sl102_10) : Bool := go102_10 s.1 s.2 p.1 p.2.1 p.2.2
noncomputable def n102_10 (p : pl102_10) (s : sl102_10) : sl102_10 := (nx102_10_0 s.1 s.2 p.1 p.2.1 p.2.2, nx102_10_1 s.1 s.2 p.1 p.2.1 p.2.2)
noncomputable def y102_10 (p : pl102_10) (s : sl102_10) : List (Bool × Out) := []
noncomputable def z102_10 (p : pl102_10) (s : sl102_10) : Bool := xc102_10_0 s.1 s.2 p.1 p.2.1 p.2.2
noncomputable def d102_10 (p : pl102_10) (s : sl102_10) : Out := (Ex.exit 2, [iA s.1], [])
noncomputable def rev102_0 (l : Int) (tk : Tk) (es : LL) : sl102_4 := finL (g102_4 (l, tk, es)) (n102_4 (l, tk, es)) 0
noncomputable def rev102_1 (l : Int) (tk : Tk) (es : LL) : sl102_10 := finL (g102_10 (l, tk, es)) (n102_10 (l, tk, es)) ((-1), 0)
noncomputable def vev102_0 (l : Int) (tk : Tk) (es : LL) : Int := bif vev88_0 l tk es != 0 then (-1) else bif xc102_4_0 (rev102_0 l tk es) l tk es then rev102_0 l tk es else (rev102_1 l tk es).fst
noncomputable def vev102_1 (l : Int) (tk : Tk) (es : LL) : Bool := bif vev88_1 l tk es then bif vev88_0 l tk es != 0 then true else bif (spI g102_4 n102_4 y102_4 z102_4 d102_4 ((l, tk, es), 0)).fst then bif xc102_4_0 (rev102_0 l tk es) l tk es then true else bif (spI g102_10 n102_10 y102_10 z102_10 d102_10 ((l, tk, es), (-1), 0)).fst then true else false else false else false
noncomputable def rn70_7_0 (b c d e : Int) (f : LL) (g h i j k : Int) (a : LL) : Int := IntKind.i64.wrap (intOf ((a.getD d.toNat []).getD (0 + 1 + 1 + 1) AV.junk) + 1)
noncomputable def go70_7 (b c d e : Int) (f : LL) (g h i j k : Int) (a : LL) : Bool := bif decide (d < c) then decide (0 ≤ d) && decide (d < (↑a.length : Int)) else false
noncomputable def nx70_7_2 (b c d e : Int) (f : LL) (g h i j k : Int) (a : LL) : Int := IntKind.i64.wrap (d + 1)
noncomputable def nx70_7_10 (b c d e : Int) (f : LL) (g h i j k : Int) (a : LL) : LL := a.set d.toNat [iA (intOf ((a.getD d.toNat []).getD 0 AV.junk)), iA (intOf ((a.getD d.toNat []).getD (0 + 1) AV.junk)), iA (intOf ((a.getD d.toNat []).getD (0 + 1 + 1) AV.junk)), iA (if if false = true then 2000 < rn70_7_0 b c d e f g h i j k a else rn70_7_0 b c d e f g h i j k a < 2000 then rn70_7_0 b c d e f g h i j k a else 2000)]
noncomputable def xc70_7_0 (b c d e : Int) (f : LL) (g h i j k : Int) (a : LL) : Bool := bif decide (d < c) then false else true
abbrev pl70_7 : Type := Int × Int × Int × LL × Int × Int × Int × Int × Int
abbrev sl70_7 : Type := Int × LL
noncomputable def g70_7 (p : pl70_7) (s : sl70_7) : Bool := go70_7 p.1 p.2.1 s.1 p.2.2.1 p.2.2.2.1 p.2.2.2.2.1 p.2.2.2.2.2.1 p.2.2.2.2.2.2.1 p.2.2.2.2.2.2.2.1 p.2.2.2.2.2.2.2.2 s.2
noncomputable def n70_7 (p : pl70_7) (s : sl70_7) : sl70_7 := (nx70_7_2 p.1 p.2.1 s.1 p.2.2.1 p.2.2.2.1 p.2.2.2.2.1 p.2.2.2.2.2.1 p.2.2.2.2.2.2.1 p.2.2.2.2.2.2.2.1 p.2.2.2.2.2.2.2.2 s.2, nx70_7_10 p.1 p.2.1 s.1 p.2.2.1 p.2.2.2.1 p.2.2.2.2.1 p.2.2.2.2.2.1 p.2.2.2.2.2.2.1 p.2.2.2.2.2.2.2.1 p.2.2.2.2.2.2.2.2 s.2)
noncomputable def y70_7 (p : pl70_7) (s : sl70_7) : List (Bool × Out) := []
noncomputable def z70_7 (p : pl70_7) (s : sl70_7) : Bool := xc70_7_0 p.1 p.2.1 s.1 p.2.2.1 p.2.2.2.1 p.2.2.2.2.1 p.2.2.2.2.2.1 p.2.2.2.2.2.2.1 p.2.2.2.2.2.2.2.1 p.2.2.2.2.2.2.2.2 s.2
noncomputable def d70_7 (p : pl70_7) (s : sl70_7) : Out := (Ex.exit 0, [iA p.1, AV.hp 3 0, AV.hp 4 0, AV.hp 5 0, iA p.2.1, AV.rf 6 kI4], [Blk.dead, Blk.var [iA p.2.2.1, AV.sl Tk.imm kI4 p.2.2.2.1], Blk.var [iA p.2.2.2.2.1, AV.nil], Blk.var [iA p.2.2.2.2.2.1, iA p.2.2.2.2.2.2.1, iA p.2.2.2.2.2.2.2.1, iA p.2.2.2.2.2.2.2.2], Blk.row kI4 s.2])
noncomputable def rev70_0 (l : Int) (es : LL) (quantum : Int) : sl70_7 := finL (g70_7 (quantum, vev102_0 l Tk.imm es, l, es, 0, 0, 0, 0, 0)) (n70_7 (quantum, vev102_0 l Tk.imm es, l, es, 0, 0, 0, 0, 0)) (0, es)
noncomputable def rev70_1 (l : Int) (es : LL) (quantum : Int) : LL := (rev70_0 l es quantum).snd
noncomputable def rev70_2 (l : Int) (es : LL) (quantum : Int) : Int := (↑(rev70_1 l es quantum).length : Int)
noncomputable def rev70_3 (l : Int) (es : LL) (quantum : Int) : Int := intOf (((rev70_1 l es quantum).getD (vev102_0 l Tk.imm es).toNat []).getD (0 + 1 + 1) AV.junk)
noncomputable def rev70_4 (l : Int) (es : LL) (quantum : Int) : Int := if if false = true then quantum < rev70_3 l es quantum else rev70_3 l es quantum < quantum then rev70_3 l es quantum else quantum
noncomputable def rev70_5 (l : Int) (es : LL) (quantum : Int) : LL := (rev70_1 l es quantum).set (vev102_0 l Tk.imm es).toNat [iA (intOf (((rev70_1 l es quantum).getD (vev102_0 l Tk.imm es).toNat []).getD 0 AV.junk)), iA (intOf (((rev70_1 l es quantum).getD (vev102_0 l Tk.imm es).toNat []).getD (0 + 1) AV.junk)), iA (IntKind.i64.wrap (rev70_3 l es quantum - rev70_4 l es quantum)), iA (intOf (((rev70_1 l es quantum).getD (vev102_0 l Tk.imm es).toNat []).getD (0 + 1 + 1 + 1) AV.junk))]
noncomputable def rev70_6 (l : Int) (es : LL) (quantum : Int) : Int := (↑(rev70_5 l es quantum).length : Int)
noncomputable def rev70_7 (l : Int) (es : LL) (quantum : Int) : Int := intOf (((rev70_5 l es quantum).getD (vev102_0 l Tk.imm es).toNat []).getD (0 + 1 + 1) AV.junk)
noncomputable def vev70_0 (l : Int) (es : LL) (quantum : Int) : LL := bif bif decide (vev102_0 l Tk.imm es < 0) then true else decide (quantum < 1) then es else bif decide (rev70_7 l es quantum = 0) then vev98l_0 l (rev70_5 l es quantum) (vev102_0 l Tk.imm es) else rev70_5 l es quantum
noncomputable def vev70_1 (l : Int) (es : LL) (quantum : Int) : Int := bif bif decide (vev102_0 l Tk.imm es < 0) then true else decide (quantum < 1) then 0 else intOf (((rev70_5 l es quantum).getD (vev102_0 l Tk.imm es).toNat []).getD 0 AV.junk)
noncomputable def vev70_2 (l : Int) (es : LL) (quantum : Int) : Int := bif bif decide (vev102_0 l Tk.imm es < 0) then true else decide (quantum < 1) then 0 else intOf (((rev70_5 l es quantum).getD (vev102_0 l Tk.imm es).toNat []).getD (0 + 1) AV.junk)
noncomputable def vev70_3 (l : Int) (es : LL) (quantum : Int) : Int := bif bif decide (vev102_0 l Tk.imm es < 0) then true else decide (quantum < 1) then 0 else rev70_7 l es quantum
noncomputable def vev70_4 (l : Int) (es : LL) (quantum : Int) : Int := bif bif decide (vev102_0 l Tk.imm es < 0) then true else decide (quantum < 1) then 0 else intOf (((rev70_5 l es quantum).getD (vev102_0 l Tk.imm es).toNat []).getD (0 + 1 + 1 + 1) AV.junk)
noncomputable def vev70_5 (l : Int) (es : LL) (quantum : Int) : Int := bif bif decide (vev102_0 l Tk.imm es < 0) then true else decide (quantum < 1) then 0 else rev70_4 l es quantum
noncomputable def vev70_6 (l : Int) (es : LL) (quantum : Int) : Bool := bif vev102_1 l Tk.imm es then bif bif decide (vev102_0 l Tk.imm es < 0) then true else decide (quantum < 1) then true else bif bif decide (es.length * 32 ≤ 140737488355328) then decide (es.length ≤ 9223372036854775807) else false then bif (spI g70_7 n70_7 y70_7 z70_7 d70_7 ((quantum, vev102_0 l Tk.imm es, l, es, 0, 0, 0, 0, 0), 0, es)).fst then bif decide (0 ≤ vev102_0 l Tk.imm es) && decide (vev102_0 l Tk.imm es < rev70_2 l es quantum) then bif bif decide (0 ≤ vev102_0 l Tk.imm es) then decide (vev102_0 l Tk.imm es < rev70_6 l es quantum) else false then bif decide (rev70_7 l es quantum = 0) then bif vev98l_1 l (rev70_5 l es quantum) (vev102_0 l Tk.imm es) then true else false else true else false else false else false else false else false
noncomputable def go104_4 (a b : Int) (f : Tk) (c : LL) (d : Int) (g : Tk) (e : LL) : Bool := bif decide (a < (↑c.length : Int)) then bif decide (0 ≤ a) && decide (a < (↑c.length : Int)) then bif decide (0 ≤ a) && decide (a < (↑e.length : Int)) then bif !(intOf ((c.getD a.toNat []).getD 0 AV.junk) == intOf ((e.getD a.toNat []).getD 0 AV.junk) && (intOf ((c.getD a.toNat []).getD (0 + 1) AV.junk) == intOf ((e.getD a.toNat []).getD (0 + 1) AV.junk) && (intOf ((c.getD a.toNat []).getD (0 + 1 + 1) AV.junk) == intOf ((e.getD a.toNat []).getD (0 + 1 + 1) AV.junk) && (intOf ((c.getD a.toNat []).getD (0 + 1 + 1 + 1) AV.junk) == intOf ((e.getD a.toNat []).getD (0 + 1 + 1 + 1) AV.junk) && true)))) then false else true else false else false else false
noncomputable def nx104_4_0 (a b : Int) (f : Tk) (c : LL) (d : Int) (g : Tk) (e : LL) : Int := IntKind.i64.wrap (a + 1)
noncomputable def xc104_4_0 (a b : Int) (f : Tk) (c : LL) (d : Int) (g : Tk) (e : LL) : Bool := bif decide (a < (↑c.length : Int)) then bif decide (0 ≤ a) && decide (a < (↑c.length : Int)) then bif decide (0 ≤ a) && decide (a < (↑e.length : Int)) then !(intOf ((c.getD a.toNat []).getD 0 AV.junk) == intOf ((e.getD a.toNat []).getD 0 AV.junk) && (intOf ((c.getD a.toNat []).getD (0 + 1) AV.junk) == intOf ((e.getD a.toNat []).getD (0 + 1) AV.junk) && (intOf ((c.getD a.toNat []).getD (0 + 1 + 1) AV.junk) == intOf ((e.getD a.toNat []).getD (0 + 1 + 1) AV.junk) && (intOf ((c.getD a.toNat []).getD (0 + 1 + 1 + 1) AV.junk) == intOf ((e.getD a.toNat []).getD (0 + 1 + 1 + 1) AV.junk) && true)))) else false else false else false
noncomputable def xc104_4_1 (a b : Int) (f : Tk) (c : LL) (d : Int) (g : Tk) (e : LL) : Bool := bif decide (a < (↑c.length : Int)) then false else true
abbrev pl104_4 : Type := Int × Tk × LL × Int × Tk × LL
abbrev sl104_4 : Type := Int
noncomputable def g104_4 (p : pl104_4) (s : sl104_4) : Bool := go104_4 s p.1 p.2.1 p.2.2.1 p.2.2.2.1 p.2.2.2.2.1 p.2.2.2.2.2
noncomputable def n104_4 (p : pl104_4) (s : sl104_4) : sl104_4 := nx104_4_0 s p.1 p.2.1 p.2.2.1 p.2.2.2.1 p.2.2.2.2.1 p.2.2.2.2.2
noncomputable def y104_4 (p : pl104_4) (s : sl104_4) : List (Bool × Out) := [(xc104_4_0 s p.1 p.2.1 p.2.2.1 p.2.2.2.1 p.2.2.2.2.1 p.2.2.2.2.2, (Ex.ret, [AV.bool false], []))]
noncomputable def z104_4 (p : pl104_4) (s : sl104_4) : Bool := xc104_4_1 s p.1 p.2.1 p.2.2.1 p.2.2.2.1 p.2.2.2.2.1 p.2.2.2.2.2
noncomputable def d104_4 (p : pl104_4) (s : sl104_4) : Out := (Ex.exit 0, [AV.junk], [])
noncomputable def rev104_0 (l : Int) (tk : Tk) (es : LL) (l2 : Int) (tk2 : Tk) (es2 : LL) : sl104_4 := finL (g104_4 (l, tk, es, l2, tk2, es2)) (n104_4 (l, tk, es, l2, tk2, es2)) 0
noncomputable def vev104_0 (l : Int) (tk : Tk) (es : LL) (l2 : Int) (tk2 : Tk) (es2 : LL) : Bool := bif bif l != l2 then true else (↑es.length : Int) != (↑es2.length : Int) then false else bif xc104_4_0 (rev104_0 l tk es l2 tk2 es2) l tk es l2 tk2 es2 then false else true
noncomputable def vev104_1 (l : Int) (tk : Tk) (es : LL) (l2 : Int) (tk2 : Tk) (es2 : LL) : Bool := bif bif l != l2 then true else (↑es.length : Int) != (↑es2.length : Int) then true else bif (spI g104_4 n104_4 y104_4 z104_4 d104_4 ((l, tk, es, l2, tk2, es2), 0)).fst then true else false
end Go.Proofs.Gv
namespace Go.Proofs.Gv
open Go.Proofs
noncomputable def vev119_0 (a b c d : Int) : Bool := bif decide (a < c) then true else bif a == c then bif false then true else bif true then decide (b < d) else false else bif false then true else false
theorem ev119 (a b c d : Int) : eF k67 noLsp 119 Try.f119 [.agg [iA a, iA b], .agg [iA c, iA d]] [] = bif true then some (true, AV.bool (vev119_0 a b c d), []) else none := by
 refine Eq.trans (b := bif bif decide (a < c) then true else bif a == c then true else true then some (true, AV.bool (bif decide (a < c) then true else bif a == c then bif false then true else bif true then decide (b < d) else false else bif false then true else false), []) else none) (by kernel_rfl) ?_
 unfold vev119_0
 generalize (decide (a < c)) = c0
 generalize (a == c) = c1
 cases c0; cases c1; rfl; rfl; rfl
noncomputable def sp119 : Sp
 | [.agg [.int .i64 a, .int .i64 b], .agg [.int .i64 c, .int .i64 d]], [] => spW (true) (some ((true, AV.bool (vev119_0 a b c d), [])))
 | _, _ => none
noncomputable def k119 : Gam := spG 119 sp119 k67
theorem k119_ok : GamOK Try.prog k119 := spG_ok k67_ok fun T C r outs hs => by
   unfold sp119 at hs
   split at hs
   ·rename_i a b c d
    obtain ⟨hb, rfl, rfl⟩ := spT_inv hs
    have he := ev119 a b c d
    obtain ⟨r0, o0, h0, he⟩ := evFin_inv he
    obtain ⟨h1, h2⟩ := fn_ok mixed plain (gk_ok k67_ok 30) Try.func119 (fun c _ => LoopsOK.none (fun _ _ => rfl) c) h0
    exact ⟨h1, h2.fin he⟩
   ·cases hs
noncomputable def vev112_0 (tk : Tk) (es : LL) (i k : Int) : Bool := vev119_0 (intOf ((es.getD i.toNat []).getD 0 AV.junk)) (intOf ((es.getD i.toNat []).getD (0 + 1) AV.junk)) (intOf ((es.getD k.toNat []).getD 0 AV.junk)) (intOf ((es.getD k.toNat []).getD (0 + 1) AV.junk))
noncomputable def vev112_1 (tk : Tk) (es : LL) (i k : Int) : Bool := bif decide (0 ≤ i) && decide (i < (↑es.length : Int)) then bif decide (0 ≤ k) && decide (k < (↑es.length : Int)) then true else false else false
theorem ev112 (tk : Tk) (es : LL) (i k : Int) : eF k119 noLsp 112 Try.f112 [.sl tk kI2 es, iA i, iA k] [] = bif vev112_1 tk es i k then some (true, AV.bool (vev112_0 tk es i k), []) else none := by
 refine Eq.trans (b := bif decide (0 ≤ i) && decide (i < (↑es.length : Int)) then bif decide (0 ≤ k) && decide (k < (↑es.length : Int)) then some (true, AV.bool (vev119_0 (intOf ((es.getD i.toNat []).getD 0 AV.junk)) (intOf ((es.getD i.toNat []).getD (0 + 1) AV.junk)) (intOf ((es.getD k.toNat []).getD 0 AV.junk)) (intOf ((es.getD k.toNat []).getD (0 + 1) AV.junk))), []) else none else none) (by kernel_rfl) ?_
 unfold vev112_0 vev112_1
 generalize (decide (0 ≤ k) && decide (k < (↑es.length : Int))) = c0
 generalize (decide (0 ≤ i) && decide (i < (↑es.length : Int))) = c1
 cases c1; rfl; cases c0; rfl; rfl
noncomputable def sp112 : Sp
 | [.sl tk [.int .i64, .int .i64] es, .int .i64 i, .int .i64 k], [] => spW (vev112_1 tk es i k) (some ((true, AV.bool (vev112_0 tk es i k), [])))
 | _, _ => none
noncomputable def k112 : Gam := spG 112 sp112 k119
theorem k112_ok : GamOK Try.prog k112 := spG_ok k119_ok fun T C r outs hs => by
   unfold sp112 at hs
   split at hs
   ·exact okE k119_ok Try.func112 (fun c _ => LoopsOK.none (fun _ _ => rfl) c) (ev112 _ _ _ _) hs
   ·cases hs
noncomputable def rn87_0_0 (t1 : Int) (b0 : LL) : Int := IntKind.i64.wrap ((IntKind.i64.wrap (t1 - 1)).tdiv 2)
noncomputable def rn87_0_1 (t1 : Int) (b0 : LL) : Int := (↑(b0.set t1.toNat (over (fitRow kI2 (b0.getD t1.toNat [])) 0 (List.take 2 (List.drop 0 (fitRow kI2 (b0.getD (rn87_0_0 t1 b0).toNat [])))))).length : Int)
noncomputable def go87_0 (t1 : Int) (b0 : LL) : Bool := bif bif decide (t1 > 0) then vev112_1 Tk.lent b0 t1 (rn87_0_0 t1 b0) else true then bif bif decide (t1 > 0) then bif vev112_1 Tk.lent b0 t1 (rn87_0_0 t1 b0) then vev112_0 Tk.lent b0 t1 (rn87_0_0 t1 b0) else false else false then bif decide (0 ≤ rn87_0_0 t1 b0) && decide (rn87_0_0 t1 b0 < (↑b0.length : Int)) then bif decide (0 ≤ t1) && decide (t1 < (↑b0.length : Int)) then bif decide (0 ≤ rn87_0_0 t1 b0) then decide (rn87_0_0 t1 b0 < rn87_0_1 t1 b0) else false else false else false else false else false
noncomputable def nx87_0_1 (t1 : Int) (b0 : LL) : LL := (b0.set t1.toNat [iA (intOf ((b0.getD (rn87_0_0 t1 b0).toNat []).getD 0 AV.junk)), iA (intOf ((b0.getD (rn87_0_0 t1 b0).toNat []).getD (0 + 1) AV.junk))]).set (rn87_0_0 t1 b0).toNat [iA (intOf ((b0.getD t1.toNat []).getD 0 AV.junk)), iA (intOf ((b0.getD t1.toNat []).getD (0 + 1) AV.junk))]
noncomputable def xc87_0_0 (t1 : Int) (b0 : LL) : Bool := bif bif decide (t1 > 0) then vev112_1 Tk.lent b0 t1 (rn87_0_0 t1 b0) else true then bif bif decide (t1 > 0) then bif vev112_1 Tk.lent b0 t1 (rn87_0_0 t1 b0) then vev112_0 Tk.lent b0 t1 (rn87_0_0 t1 b0) else false else false then false else true else false
theorem rd87_0 (rest : Lsp) (t1 : Int) (b0 : LL) : rV k112 rest 87 1 j87 0 [0, 1] [0] [] [0] [AV.rf 0 kI2, iA t1] [Blk.row kI2 b0] = bif go87_0 t1 b0 then some (Ex.norm, [AV.rf 0 kI2, iA (rn87_0_0 t1 b0)], [Blk.row kI2 (nx87_0_1 t1 b0)]) else bif xc87_0_0 t1 b0 then some (Ex.exit 1048576, [], [Blk.row kI2 b0]) else none := by
 refine Eq.trans (b := bif bif decide (t1 > 0) then bif vev112_1 Tk.lent b0 t1 (rn87_0_0 t1 b0) then true else false else true then bif bif decide (t1 > 0) then bif vev112_1 Tk.lent b0 t1 (rn87_0_0 t1 b0) then bif true then vev112_0 Tk.lent b0 t1 (rn87_0_0 t1 b0) else false else false else false then bif decide (0 ≤ rn87_0_0 t1 b0) && decide (rn87_0_0 t1 b0 < (↑b0.length : Int)) then bif decide (0 ≤ t1) && decide (t1 < (↑b0.length : Int)) then bif decide (0 ≤ t1) && decide (t1 < (↑b0.length : Int)) then bif bif decide (0 ≤ rn87_0_0 t1 b0) then decide (rn87_0_0 t1 b0 < rn87_0_1 t1 b0) else false then some (Ex.norm, [AV.rf 0 kI2, iA (rn87_0_0 t1 b0)], [Blk.row kI2 ((b0.set t1.toNat [iA (intOf ((b0.getD (rn87_0_0 t1 b0).toNat []).getD 0 AV.junk)), iA (intOf ((b0.getD (rn87_0_0 t1 b0).toNat []).getD (0 + 1) AV.junk))]).set (rn87_0_0 t1 b0).toNat [iA (intOf ((b0.getD t1.toNat []).getD 0 AV.junk)), iA (intOf ((b0.getD t1.toNat []).getD (0 + 1) AV.junk))])]) else none else none else none else none else some (Ex.exit 1048576, [], [Blk.row kI2 b0]) else none) (by kernel_rfl) ?_
 unfold go87_0 nx87_0_1 xc87_0_0
 generalize (decide (0 ≤ rn87_0_0 t1 b0) && decide (rn87_0_0 t1 b0 < (↑b0.length : Int))) = c0
 generalize (decide (0 ≤ t1) && decide (t1 < (↑b0.length : Int))) = c1
 generalize (decide (0 ≤ rn87_0_0 t1 b0)) = c2
 generalize (decide (rn87_0_0 t1 b0 < rn87_0_1 t1 b0)) = c3
 generalize (decide (t1 > 0)) = c4
 generalize (vev112_1 _ _ _ _) = c5
 generalize (vev112_0 _ _ _ _) = c6
 cases c4; rfl; cases c5; rfl; cases c6; rfl; cases c0; rfl; cases c1; rfl; cases c2; rfl; cases c3; rfl; rfl
abbrev pl87_0 : Type := Unit
abbrev sl87_0 : Type := Int × LL
noncomputable def vt87_0 (a : pl87_0 × sl87_0) : List AV := [AV.rf 0 kI2, iA a.2.1]
noncomputable def vc87_0 (a : pl87_0 × sl87_0) : List Blk := [Blk.row kI2 a.2.2]
noncomputable def de87_0 (vt : List AV) (vc : List Blk) : Option (pl87_0 × sl87_0) :=
 match vt with
 | [qa0, qa1] => (match vc with
 | [qb0] => (match qa0 with
 | AV.rf (0) [.int .i64, .int .i64] => (match qa1 with
 | .int .i64 t1 => (match qb0 with
 | .row [.int .i64, .int .i64] b0 => (some ((), (t1, b0)))
 | _ => none)
 | _ => none)
 | _ => none)
 | _ => none)
 | _ => none
theorem de87_0_ok (vt : List AV) (vc : List Blk) (a : pl87_0 × sl87_0) (h : de87_0 vt vc = some a) : vt = vt87_0 a ∧ vc = vc87_0 a := by
 unfold de87_0 at h
 iterate 5 (split at h; rotate_left; · cases h)
 injection h with h; subst h; exact ⟨rfl, rfl⟩
noncomputable def g87_0 (p : pl87_0) (s : sl87_0) : Bool := go87_0 s.1 s.2
noncomputable def n87_0 (p : pl87_0) (s : sl87_0) : sl87_0 := (rn87_0_0 s.1 s.2, nx87_0_1 s.1 s.2)
noncomputable def y87_0 (p : pl87_0) (s : sl87_0) : List (Bool × Out) := []
noncomputable def z87_0 (p : pl87_0) (s : sl87_0) : Bool := xc87_0_0 s.1 s.2
noncomputable def d87_0 (p : pl87_0) (s : sl87_0) : Out := (Ex.exit 1048576, [], [Blk.row kI2 s.2])
noncomputable def ls87_0 := lspOf [0, 1] [0] [] [0] j87.ntmps (1 + tab.nid 87) de87_0 (spI g87_0 n87_0 y87_0 z87_0 d87_0)
theorem lo87_0 (rest : Lsp) : lO k112 (selL 0 ls87_0 rest) 87 1 j87 0 := LoopOK1.iter (i := 0) (by kernel_rfl) [0, 1] [0] [] [0] vt87_0 vc87_0 de87_0 g87_0 n87_0 y87_0 z87_0 d87_0 (fun _ => rfl) de87_0_ok (fun p s => rd87_0 (selL 0 ls87_0 rest) (s.1) (s.2)) (fun _ _ => rfl)
noncomputable def lsp87 : Lsp := (selL 0 ls87_0 noLsp)
theorem loops87 : ∀ c, j87.body = some c → lsO k112 lsp87 87 1 j87 c := loops_of [0] (by kernel_rfl) (by kernel_rfl) (fun i hi => by simp only [List.mem_cons, List.not_mem_nil, or_false] at hi; subst hi; exact lo87_0 noLsp)
noncomputable def rev87_0 (es : LL) (i : Int) : sl87_0 := finL (g87_0 ()) (n87_0 ()) (i, es)
noncomputable def vev87_0 (es : LL) (i : Int) : LL := (rev87_0 es i).snd
noncomputable def vev87_1 (es : LL) (i : Int) : Bool := bif (spI g87_0 n87_0 y87_0 z87_0 d87_0 ((), i, es)).fst then true else false
theorem ev87 (es : LL) (i : Int) : eF k112 lsp87 87 j87 [.rf 0 kI2, iA i] [.row kI2 es] = bif vev87_1 es i then some (true, AV.tup [], [Blk.row kI2 (vev87_0 es i)]) else none := by
 refine Eq.trans (b := bif (spI g87_0 n87_0 y87_0 z87_0 d87_0 ((), i, es)).fst then some (true, AV.tup [], [Blk.row kI2 (rev87_0 es i).snd]) else none) (by kernel_rfl) ?_
 unfold vev87_0 vev87_1
 generalize (spI g87_0 _ _ _ _ _).fst = c0
 cases c0
 ·skip
  rfl
 ·skip
  rfl
noncomputable def sp87 : Sp
 | [.rf 0 [.int .i64, .int .i64], .int .i64 i], [.row [.int .i64, .int .i64] es] => spW (vev87_1 es i) (some ((true, AV.tup [], [Blk.row kI2 (vev87_0 es i)])))
 | _, _ => none
noncomputable def k87 : Gam := spG 87 sp87 k112
theorem k87_ok : GamOK Try.prog k87 := spG_ok k112_ok fun T C r outs hs => by
   unfold sp87 at hs
   split at hs
   ·rename_i i es
    obtain ⟨hb, rfl, rfl⟩ := spT_inv hs
    have he := ev87 es i
    rw [hb, cond_true] at he
    obtain ⟨r0, o0, h0, he⟩ := evFin_inv he
    obtain ⟨h1, h2⟩ := fn_okJ mixed plain (gk_ok k112_ok 30) Try.func87 loops87 h0
    exact ⟨h1, h2.fin he⟩
   ·cases hs
noncomputable def rn87s_0_0 (t0i t0n t0c : Nat) (t1 : Int) (b0 : LL) : LL := List.take t0n (List.drop t0i b0)
noncomputable def rn87s_0_1 (t0i t0n t0c : Nat) (t1 : Int) (b0 : LL) : Int := IntKind.i64.wrap ((IntKind.i64.wrap (t1 - 1)).tdiv 2)
noncomputable def go87s_0 (t0i t0n t0c : Nat) (t1 : Int) (b0 : LL) : Bool := bif bif decide (t1 > 0) then vev112_1 Tk.lent (rn87s_0_0 t0i t0n t0c t1 b0) t1 (rn87s_0_1 t0i t0n t0c t1 b0) else true then bif bif decide (t1 > 0) then bif vev112_1 Tk.lent (rn87s_0_0 t0i t0n t0c t1 b0) t1 (rn87s_0_1 t0i t0n t0c t1 b0) then vev112_0 Tk.lent (rn87s_0_0 t0i t0n t0c t1 b0) t1 (rn87s_0_1 t0i t0n t0c t1 b0) else false else false then bif decide (0 ≤ rn87s_0_1 t0i t0n t0c t1 b0) && decide (rn87s_0_1 t0i t0n t0c t1 b0 < (↑t0n : Int)) then decide (0 ≤ t1) && decide (t1 < (↑t0n : Int)) else false else false else false
noncomputable def nx87s_0_4 (t0i t0n t0c : Nat) (t1 : Int) (b0 : LL) : LL := (b0.set (t1.toNat + t0i) [iA (intOf ((b0.getD ((rn87s_0_1 t0i t0n t0c t1 b0).toNat + t0i) []).getD 0 AV.junk)), iA (intOf ((b0.getD ((rn87s_0_1 t0i t0n t0c t1 b0).toNat + t0i) []).getD (0 + 1) AV.junk))]).set ((rn87s_0_1 t0i t0n t0c t1 b0).toNat + t0i) [iA (intOf ((b0.getD (t1.toNat + t0i) []).getD 0 AV.junk)), iA (intOf ((b0.getD (t1.toNat + t0i) []).getD (0 + 1) AV.junk))]
noncomputable def xc87s_0_0 (t0i t0n t0c : Nat) (t1 : Int) (b0 : LL) : Bool := bif bif decide (t1 > 0) then vev112_1 Tk.lent (rn87s_0_0 t0i t0n t0c t1 b0) t1 (rn87s_0_1 t0i t0n t0c t1 b0) else true then bif bif decide (t1 > 0) then bif vev112_1 Tk.lent (rn87s_0_0 t0i t0n t0c t1 b0) t1 (rn87s_0_1 t0i t0n t0c t1 b0) then vev112_0 Tk.lent (rn87s_0_0 t0i t0n t0c t1 b0) t1 (rn87s_0_1 t0i t0n t0c t1 b0) else false else false then false else true else false
theorem rd87s_0 (rest : Lsp) (t0i t0n t0c : Nat) (t1 : Int) (b0 : LL) : rV k87 rest 87 1 j87 0 [0, 1] [0] [] [0] [AV.rs 0 kI2 t0i t0n t0c, iA t1] [Blk.row kI2 b0] = bif go87s_0 t0i t0n t0c t1 b0 then some (Ex.norm, [AV.rs 0 kI2 t0i t0n t0c, iA (rn87s_0_1 t0i t0n t0c t1 b0)], [Blk.row kI2 (nx87s_0_4 t0i t0n t0c t1 b0)]) else bif xc87s_0_0 t0i t0n t0c t1 b0 then some (Ex.exit 1048576, [], [Blk.row kI2 b0]) else none := by
 refine Eq.trans (b := bif bif decide (t1 > 0) then bif vev112_1 Tk.lent (rn87s_0_0 t0i t0n t0c t1 b0) t1 (rn87s_0_1 t0i t0n t0c t1 b0) then true else false else true then bif bif decide (t1 > 0) then bif vev112_1 Tk.lent (rn87s_0_0 t0i t0n t0c t1 b0) t1 (rn87s_0_1 t0i t0n t0c t1 b0) then bif true then vev112_0 Tk.lent (rn87s_0_0 t0i t0n t0c t1 b0) t1 (rn87s_0_1 t0i t0n t0c t1 b0) else false else false else false then bif decide (0 ≤ rn87s_0_1 t0i t0n t0c t1 b0) && decide (rn87s_0_1 t0i t0n t0c t1 b0 < (↑t0n : Int)) then bif decide (0 ≤ t1) && decide (t1 < (↑t0n : Int)) then bif decide (0 ≤ t1) && decide (t1 < (↑t0n : Int)) then bif decide (0 ≤ rn87s_0_1 t0i t0n t0c t1 b0) && decide (rn87s_0_1 t0i t0n t0c t1 b0 < (↑t0n : Int)) then some (Ex.norm, [AV.rs 0 kI2 t0i t0n t0c, iA (rn87s_0_1 t0i t0n t0c t1 b0)], [Blk.row kI2 ((b0.set (t1.toNat + t0i) [iA (intOf ((b0.getD ((rn87s_0_1 t0i t0n t0c t1 b0).toNat + t0i) []).getD 0 AV.junk)), iA (intOf ((b0.getD ((rn87s_0_1 t0i t0n t0c t1 b0).toNat + t0i) []).getD (0 + 1) AV.junk))]).set ((rn87s_0_1 t0i t0n t0c t1 b0).toNat + t0i) [iA (intOf ((b0.getD (t1.toNat + t0i) []).getD 0 AV.junk)), iA (intOf ((b0.getD (t1.toNat + t0i) []).getD (0 + 1) AV.junk))])]) else none else none else none else none else some (Ex.exit 1048576, [], [Blk.row kI2 b0]) else none) (by kernel_rfl) ?_
 unfold go87s_0 nx87s_0_4 xc87s_0_0
 generalize (decide (0 ≤ rn87s_0_1 t0i t0n t0c t1 b0) && decide (rn87s_0_1 t0i t0n t0c t1 b0 < (↑t0n : Int))) = c0
 generalize (decide (0 ≤ t1) && decide (t1 < (↑t0n : Int))) = c1
 generalize (decide (t1 > 0)) = c2
 generalize (vev112_0 _ _ _ _) = c3
 generalize (vev112_1 _ _ _ _) = c4
 cases c2; rfl; cases c4; rfl; cases c3; rfl; cases c0; rfl; cases c1; rfl; rfl
abbrev pl87s_0 : Type := Nat × Nat × Nat
abbrev sl87s_0 : Type := Int × LL
noncomputable def vt87s_0 (a : pl87s_0 × sl87s_0) : List AV := [AV.rs 0 kI2 a.1.1 a.1.2.1 a.1.2.2, iA a.2.1]
noncomputable def vc87s_0 (a : pl87s_0 × sl87s_0) : List Blk := [Blk.row kI2 a.2.2]
noncomputable def de87s_0 (vt : List AV) (vc : List Blk) : Option (pl87s_0 × sl87s_0) :=
 match vt with
 | [qa0, qa1] => (match vc with
 | [qb0] => (match qa0 with
 | AV.rs (0) [.int .i64, .int .i64] t0i t0n t0c => (match qa1 with
 | .int .i64 t1 => (match qb0 with
 | .row [.int .i64, .int .i64] b0 => (some ((t0i, t0n, t0c), (t1, b0)))
 | _ => none)
 | _ => none)
 | _ => none)
 | _ => none)
 | _ => none
theorem de87s_0_ok (vt : List AV) (vc : List Blk) (a : pl87s_0 × sl87s_0) (h : de87s_0 vt vc = some a) : vt = vt87s_0 a ∧ vc = vc87s_0 a := by
 unfold de87s_0 at h
 iterate 5 (split at h; rotate_left; · cases h)
 injection h with h; subst h; exact ⟨rfl, rfl⟩
noncomputable def g87s_0 (p : pl87s_0) (s : sl87s_0) : Bool := go87s_0 p.1 p.2.1 p.2.2 s.1 s.2
noncomputable def n87s_0 (p : pl87s_0) (s : sl87s_0) : sl87s_0 := (rn87s_0_1 p.1 p.2.1 p.2.2 s.1 s.2, nx87s_0_4 p.1 p.2.1 p.2.2 s.1 s.2)
noncomputable def y87s_0 (p : pl87s_0) (s : sl87s_0) : List (Bool × Out) := []
noncomputable def z87s_0 (p : pl87s_0) (s : sl87s_0) : Bool := xc87s_0_0 p.1 p.2.1 p.2.2 s.1 s.2
noncomputable def d87s_0 (p : pl87s_0) (s : sl87s_0) : Out := (Ex.exit 1048576, [], [Blk.row kI2 s.2])
noncomputable def ls87s_0 := lspOf [0, 1] [0] [] [0] j87.ntmps (1 + tab.nid 87) de87s_0 (spI g87s_0 n87s_0 y87s_0 z87s_0 d87s_0)
theorem lo87s_0 (rest : Lsp) : lO k87 (selL 0 ls87s_0 rest) 87 1 j87 0 := LoopOK1.iter (i := 0) (by kernel_rfl) [0, 1] [0] [] [0] vt87s_0 vc87s_0 de87s_0 g87s_0 n87s_0 y87s_0 z87s_0 d87s_0 (fun _ => rfl) de87s_0_ok (fun p s => rd87s_0 (selL 0 ls87s_0 rest) (p.1) (p.2.1) (p.2.2) (s.1) (s.2)) (fun _ _ => rfl)
noncomputable def lsp87s : Lsp := (selL 0 ls87s_0 noLsp)
theorem loops87s : ∀ c, j87.body = some c → lsO k87 lsp87s 87 1 j87 c := loops_of [0] (by kernel_rfl) (by kernel_rfl) (fun i hi => by simp only [List.mem_cons, List.not_mem_nil, or_false] at hi; subst hi; exact lo87s_0 noLsp)
noncomputable def rev87s_0 (es : LL) (n cp : Nat) (i : Int) : sl87s_0 := finL (g87s_0 (0, n, cp)) (n87s_0 (0, n, cp)) (i, es)
noncomputable def vev87s_0 (es : LL) (n cp : Nat) (i : Int) : LL := (rev87s_0 es n cp i).snd
noncomputable def vev87s_1 (es : LL) (n cp : Nat) (i : Int) : Bool := bif (spI g87s_0 n87s_0 y87s_0 z87s_0 d87s_0 ((0, n, cp), i, es)).fst then true else false
theorem ev87s (es : LL) (n cp : Nat) (i : Int) : eF k87 lsp87s 87 j87 [.rs 0 kI2 0 n cp, iA i] [.row kI2 es] = bif vev87s_1 es n cp i then some (true, AV.tup [], [Blk.row kI2 (vev87s_0 es n cp i)]) else none := by
 refine Eq.trans (b := bif (spI g87s_0 n87s_0 y87s_0 z87s_0 d87s_0 ((0, n, cp), i, es)).fst then some (true, AV.tup [], [Blk.row kI2 (rev87s_0 es n cp i).snd]) else none) (by kernel_rfl) ?_
 unfold vev87s_0 vev87s_1
 generalize (spI g87s_0 _ _ _ _ _).fst = c0
 cases c0
 ·skip
  rfl
 ·skip
  rfl
noncomputable def sp87s : Sp
 | [.rs 0 [.int .i64, .int .i64] 0 n cp, .int .i64 i], [.row [.int .i64, .int .i64] es] => spW (vev87s_1 es n cp i) (some ((true, AV.tup [], [Blk.row kI2 (vev87s_0 es n cp i)])))
 | _, _ => none
noncomputable def k87s : Gam := spG 87 sp87s k87
theorem k87s_ok : GamOK Try.prog k87s := spG_ok k87_ok fun T C r outs hs => by
   unfold sp87s at hs
   split at hs
   ·rename_i n cp i es
    obtain ⟨hb, rfl, rfl⟩ := spT_inv hs
    have he := ev87s es n cp i
    rw [hb, cond_true] at he
    obtain ⟨r0, o0, h0, he⟩ := evFin_inv he
    obtain ⟨h1, h2⟩ := fn_okJ mixed plain (gk_ok k87_ok 30) Try.func87 loops87s h0
    exact ⟨h1, h2.fin he⟩
   ·cases hs
noncomputable def rn114_2_0 (b c d : Int) (a : LL) : Int := IntKind.i64.wrap (IntKind.i64.wrap (2 * b) + 2)
noncomputable def go114_2 (b c d : Int) (a : LL) : Bool := bif bif decide (d ≤ rn114_2_0 b c d a) then decide (d < (↑a.length : Int)) else false then vev112_1 Tk.lent a d c else false
noncomputable def nx114_2_1 (b c d : Int) (a : LL) : Int := bif vev112_0 Tk.lent a d c then d else c
noncomputable def nx114_2_2 (b c d : Int) (a : LL) : Int := IntKind.i64.wrap (d + 1)
noncomputable def xc114_2_0 (b c d : Int) (a : LL) : Bool := bif bif decide (d ≤ rn114_2_0 b c d a) then decide (d < (↑a.length : Int)) else false then false else true
theorem rd114_2 (rest : Lsp) (b c d : Int) (a : LL) : rV k87s rest 114 1 j114 2 [0, 1, 4, 5] [0] [0, 1, 4] [0] [AV.rf 0 kI2, iA b, iA c, iA d] [Blk.row kI2 a] = bif go114_2 b c d a then some (Ex.norm, [AV.rf 0 kI2, iA b, iA (nx114_2_1 b c d a), iA (nx114_2_2 b c d a)], [Blk.row kI2 a]) else bif xc114_2_0 b c d a then some (Ex.exit 0, [AV.rf 0 kI2, iA b, iA c], [Blk.row kI2 a]) else none := by
 refine Eq.trans (b := bif bif decide (d ≤ rn114_2_0 b c d a) then true else true then bif bif decide (d ≤ rn114_2_0 b c d a) then bif true then decide (d < (↑a.length : Int)) else false else false then bif vev112_1 Tk.lent a d c then bif vev112_0 Tk.lent a d c then some (Ex.norm, [AV.rf 0 kI2, iA b, iA d, iA (IntKind.i64.wrap (d + 1))], [Blk.row kI2 a]) else some (Ex.norm, [AV.rf 0 kI2, iA b, iA c, iA (IntKind.i64.wrap (d + 1))], [Blk.row kI2 a]) else none else some (Ex.exit 0, [AV.rf 0 kI2, iA b, iA c], [Blk.row kI2 a]) else none) (by kernel_rfl) ?_
 unfold go114_2 nx114_2_1 nx114_2_2 xc114_2_0
 generalize (decide (d < (↑a.length : Int))) = c0
 generalize (decide (d ≤ rn114_2_0 b c d a)) = c1
 generalize (vev112_0 _ _ _ _) = c2
 generalize (vev112_1 _ _ _ _) = c3
 cases c1; rfl; cases c0; rfl; cases c3; rfl; cases c2; rfl; rfl
abbrev pl114_2 : Type := Int × LL
abbrev sl114_2 : Type := Int × Int
noncomputable def vt114_2 (a : pl114_2 × sl114_2) : List AV := [AV.rf 0 kI2, iA a.1.1, iA a.2.1, iA a.2.2]
noncomputable def vc114_2 (a : pl114_2 × sl114_2) : List Blk := [Blk.row kI2 a.1.2]
noncomputable def de114_2 (vt : List AV) (vc : List Blk) : Option (pl114_2 × sl114_2) :=
 match vt with
 | [qa0, qa1, qa2, qa3] => (match vc with
 | [qb0] => (match qa0 with
 | AV.rf (0) [.int .i64, .int .i64] => (match qa1 with
 | .int .i64 t1 => (match qa2 with
 | .int .i64 t4 => (match qa3 with
 | .int .i64 t5 => (match qb0 with
 | .row [.int .i64, .int .i64] b0 => (some ((t1, b0), (t4, t5)))
 | _ => none)
 | _ => none)
 | _ => none)
 | _ => none)
 | _ => none)
 | _ => none)
 | _ => none
theorem de114_2_ok (vt : List AV) (vc : List Blk) (a : pl114_2 × sl114_2) (h : de114_2 vt vc = some a) : vt = vt114_2 a ∧ vc = vc114_2 a := by
 unfold de114_2 at h
 iterate 7 (split at h; rotate_left; · cases h)
 injection h with h; subst h; exact ⟨rfl, rfl⟩
noncomputable def g114_2 (p : pl114_2) (s : sl114_2) : Bool := go114_2 p.1 s.1 s.2 p.2
noncomputable def n114_2 (p : pl114_2) (s : sl114_2) : sl114_2 := (nx114_2_1 p.1 s.1 s.2 p.2, nx114_2_2 p.1 s.1 s.2 p.2)
noncomputable def y114_2 (p : pl114_2) (s : sl114_2) : List (Bool × Out) := []
noncomputable def z114_2 (p : pl114_2) (s : sl114_2) : Bool := xc114_2_0 p.1 s.1 s.2 p.2
noncomputable def d114_2 (p : pl114_2) (s : sl114_2) : Out := (Ex.exit 0, [AV.rf 0 kI2, iA p.1, iA s.1], [Blk.row kI2 p.2])
noncomputable def ls114_2 := lspOf [0, 1, 4, 5] [0] [0, 1, 4] [0] j114.ntmps (1 + tab.nid 114) de114_2 (spI g114_2 n114_2 y114_2 z114_2 d114_2)
theorem lo114_2 (rest : Lsp) : lO k87s (selL 2 ls114_2 rest) 114 1 j114 2 := LoopOK1.iter (i := 2) (by kernel_rfl) [0, 1, 4, 5] [0] [0, 1, 4] [0] vt114_2 vc114_2 de114_2 g114_2 n114_2 y114_2 z114_2 d114_2 (fun _ => rfl) de114_2_ok (fun p s => rd114_2 (selL 2 ls114_2 rest) (p.1) (s.1) (s.2) (p.2)) (fun _ _ => rfl)
noncomputable def rn114_0_0 (t1 : Int) (b0 : LL) : sl114_2 := finL (g114_2 (t1, b0)) (n114_2 (t1, b0)) (t1, IntKind.i64.wrap (IntKind.i64.wrap (2 * t1) + 1))
noncomputable def rn114_0_1 (t1 : Int) (b0 : LL) : Int := (rn114_0_0 t1 b0).fst
noncomputable def rn114_0_2 (t1 : Int) (b0 : LL) : Int := (↑(b0.set t1.toNat (over (fitRow kI2 (b0.getD t1.toNat [])) 0 (List.take 2 (List.drop 0 (fitRow kI2 (b0.getD (rn114_0_1 t1 b0).toNat [])))))).length : Int)
noncomputable def go114_0 (t1 : Int) (b0 : LL) : Bool := bif (spI g114_2 n114_2 y114_2 z114_2 d114_2 ((t1, b0), t1, IntKind.i64.wrap (IntKind.i64.wrap (2 * t1) + 1))).fst then bif rn114_0_1 t1 b0 != t1 then bif decide (0 ≤ rn114_0_1 t1 b0) && decide (rn114_0_1 t1 b0 < (↑b0.length : Int)) then bif decide (0 ≤ t1) && decide (t1 < (↑b0.length : Int)) then bif decide (0 ≤ rn114_0_1 t1 b0) then decide (rn114_0_1 t1 b0 < rn114_0_2 t1 b0) else false else false else false else false else false
noncomputable def nx114_0_1 (t1 : Int) (b0 : LL) : LL := (b0.set t1.toNat [iA (intOf ((b0.getD (rn114_0_1 t1 b0).toNat []).getD 0 AV.junk)), iA (intOf ((b0.getD (rn114_0_1 t1 b0).toNat []).getD (0 + 1) AV.junk))]).set (rn114_0_1 t1 b0).toNat [iA (intOf ((b0.getD t1.toNat []).getD 0 AV.junk)), iA (intOf ((b0.getD t1.toNat []).getD (0 + 1) AV.junk))]
noncomputable def xc114_0_0 (t1 : Int) (b0 : LL) : Bool := bif (spI g114_2 n114_2 y114_2 z114_2 d114_2 ((t1, b0), t1, IntKind.i64.wrap (IntKind.i64.wrap (2 * t1) + 1))).fst then bif rn114_0_1 t1 b0 != t1 then false else true else false
theorem rd114_0 (rest : Lsp) (t1 : Int) (b0 : LL) : rV k87s (selL 2 ls114_2 rest) 114 1 j114 0 [0, 1] [0] [] [0] [AV.rf 0 kI2, iA t1] [Blk.row kI2 b0] = bif go114_0 t1 b0 then some (Ex.norm, [AV.rf 0 kI2, iA (rn114_0_1 t1 b0)], [Blk.row kI2 (nx114_0_1 t1 b0)]) else bif xc114_0_0 t1 b0 then some (Ex.exit 1048576, [], [Blk.row kI2 b0]) else none := by
 refine Eq.trans (b := bif (spI g114_2 n114_2 y114_2 z114_2 d114_2 ((t1, b0), t1, IntKind.i64.wrap (IntKind.i64.wrap (2 * t1) + 1))).fst then bif rn114_0_1 t1 b0 != t1 then bif decide (0 ≤ rn114_0_1 t1 b0) && decide (rn114_0_1 t1 b0 < (↑b0.length : Int)) then bif decide (0 ≤ t1) && decide (t1 < (↑b0.length : Int)) then bif decide (0 ≤ t1) && decide (t1 < (↑b0.length : Int)) then bif bif decide (0 ≤ rn114_0_1 t1 b0) then decide (rn114_0_1 t1 b0 < rn114_0_2 t1 b0) else false then some (Ex.norm, [AV.rf 0 kI2, iA (rn114_0_1 t1 b0)], [Blk.row kI2 ((b0.set t1.toNat [iA (intOf ((b0.getD (rn114_0_1 t1 b0).toNat []).getD 0 AV.junk)), iA (intOf ((b0.getD (rn114_0_1 t1 b0).toNat []).getD (0 + 1) AV.junk))]).set (rn114_0_1 t1 b0).toNat [iA (intOf ((b0.getD t1.toNat []).getD 0 AV.junk)), iA (intOf ((b0.getD t1.toNat []).getD (0 + 1) AV.junk))])]) else none else none else none else none else some (Ex.exit 1048576, [], [Blk.row kI2 b0]) else none) (by kernel_rfl) ?_
 unfold go114_0 nx114_0_1 xc114_0_0
 generalize (spI g114_2 _ _ _ _ _).fst = c0
 generalize (decide (0 ≤ rn114_0_1 t1 b0) && decide (rn114_0_1 t1 b0 < (↑b0.length : Int))) = c1
 generalize (decide (0 ≤ t1) && decide (t1 < (↑b0.length : Int))) = c2
 generalize (decide (0 ≤ rn114_0_1 t1 b0)) = c3
 generalize (decide (rn114_0_1 t1 b0 < rn114_0_2 t1 b0)) = c4
 generalize (rn114_0_1 t1 b0 != t1) = c5
 cases c0; rfl; cases c5; rfl; cases c1; rfl; cases c2; rfl; cases c3; rfl; cases c4; rfl; rfl
abbrev pl114_0 : Type := Unit
abbrev sl114_0 : Type := Int × LL
noncomputable def vt114_0 (a : pl114_0 × sl114_0) : List AV := [AV.rf 0 kI2, iA a.2.1]
noncomputable def vc114_0 (a : pl114_0 × sl114_0) : List Blk := [Blk.row kI2 a.2.2]
noncomputable def de114_0 (vt : List AV) (vc : List Blk) : Option (pl114_0 × sl114_0) :=
 match vt with
 | [qa0, qa1] => (match vc with
 | [qb0] => (match qa0 with
 | AV.rf (0) [.int .i64, .int .i64] => (match qa1 with
 | .int .i64 t1 => (match qb0 with
 | .row [.int .i64, .int .i64] b0 => (some ((), (t1, b0)))
 | _ => none)
 | _ => none)
 | _ => none)
 | _ => none)
 | _ => none
theorem de114_0_ok (vt : List AV) (vc : List Blk) (a : pl114_0 × sl114_0) (h : de114_0 vt vc = some a) : vt = vt114_0 a ∧ vc = vc114_0 a := by
 unfold de114_0 at h
 iterate 5 (split at h; rotate_left; · cases h)
 injection h with h; subst h; exact ⟨rfl, rfl⟩
noncomputable def g114_0 (p : pl114_0) (s : sl114_0) : Bool := go114_0 s.1 s.2
noncomputable def n114_0 (p : pl114_0) (s : sl114_0) : sl114_0 := (rn114_0_1 s.1 s.2, nx114_0_1 s.1 s.2)
noncomputable def y114_0 (p : pl114_0) (s : sl114_0) : List (Bool × Out) := []
noncomputable def z114_0 (p : pl114_0) (s : sl114_0) : Bool := xc114_0_0 s.1 s.2
noncomputable def d114_0 (p : pl114_0) (s : sl114_0) : Out := (Ex.exit 1048576, [], [Blk.row kI2 s.2])
noncomputable def ls114_0 := lspOf [0, 1] [0] [] [0] j114.ntmps (1 + tab.nid 114) de114_0 (spI g114_0 n114_0 y114_0 z114_0 d114_0)
theorem lo114_0 (rest : Lsp) : lO k87s (selL 2 ls114_2 (selL 0 ls114_0 rest)) 114 1 j114 0 := LoopOK1.iter (i := 0) (by kernel_rfl) [0, 1] [0] [] [0] vt114_0 vc114_0 de114_0 g114_0 n114_0 y114_0 z114_0 d114_0 (fun _ => rfl) de114_0_ok (fun p s => rd114_0 (selL 0 ls114_0 rest) (s.1) (s.2)) (fun _ _ => rfl)
noncomputable def lsp114 : Lsp := (selL 2 ls114_2 (selL 0 ls114_0 noLsp))
theorem loops114 : ∀ c, j114.body = some c → lsO k87s lsp114 114 1 j114 c := loops_of [0, 2] (by kernel_rfl) (by kernel_rfl) (fun i hi => by
 simp only [List.mem_cons, List.not_mem_nil, or_false] at hi
 rcases hi with rfl | rfl
 ·exact lo114_0 noLsp
 ·exact lo114_2 (selL 0 ls114_0 noLsp))
noncomputable def rev114_0 (es : LL) (i : Int) : sl114_0 := finL (g114_0 ()) (n114_0 ()) (i, es)
noncomputable def vev114_0 (es : LL) (i : Int) : LL := (rev114_0 es i).snd
noncomputable def vev114_1 (es : LL) (i : Int) : Bool := bif (spI g114_0 n114_0 y114_0 z114_0 d114_0 ((), i, es)).fst then true else false
theorem ev114 (es : LL) (i : Int) : eF k87s lsp114 114 j114 [.rf 0 kI2, iA i] [.row kI2 es] = bif vev114_1 es i then some (true, AV.tup [], [Blk.row kI2 (vev114_0 es i)]) else none := by
 refine Eq.trans (b := bif (spI g114_0 n114_0 y114_0 z114_0 d114_0 ((), i, es)).fst then some (true, AV.tup [], [Blk.row kI2 (rev114_0 es i).snd]) else none) (by kernel_rfl) ?_
 unfold vev114_0 vev114_1
 generalize (spI g114_0 _ _ _ _ _).fst = c0
 cases c0
 ·skip
  rfl
 ·skip
  rfl
noncomputable def sp114 : Sp
 | [.rf 0 [.int .i64, .int .i64], .int .i64 i], [.row [.int .i64, .int .i64] es] => spW (vev114_1 es i) (some ((true, AV.tup [], [Blk.row kI2 (vev114_0 es i)])))
 | _, _ => none
noncomputable def k114 : Gam := spG 114 sp114 k87s
theorem k114_ok : GamOK Try.prog k114 := spG_ok k87s_ok fun T C r outs hs => by
   unfold sp114 at hs
   split at hs
   ·rename_i i es
    obtain ⟨hb, rfl, rfl⟩ := spT_inv hs
    have he := ev114 es i
    rw [hb, cond_true] at he
    obtain ⟨r0, o0, h0, he⟩ := evFin_inv he
    obtain ⟨h1, h2⟩ := fn_okJ mixed plain (gk_ok k87s_ok 30) Try.func114 loops114 h0
    exact ⟨h1, h2.fin he⟩
   ·cases hs
noncomputable def rn114s_2_0 (t0i t0n t0c : Nat) (b c d : Int) (a : LL) : Int := IntKind.i64.wrap (IntKind.i64.wrap (2 * b) + 2)
noncomputable def rn114s_2_1 (t0i t0n t0c : Nat) (b c d : Int) (a : LL) : LL := List.take t0n (List.drop t0i a)
noncomputable def go114s_2 (t0i t0n t0c : Nat) (b c d : Int) (a : LL) : Bool := bif bif decide (d ≤ rn114s_2_0 t0i t0n t0c b c d a) then decide (d < (↑t0n : Int)) else false then vev112_1 Tk.lent (rn114s_2_1 t0i t0n t0c b c d a) d c else false
noncomputable def nx114s_2_4 (t0i t0n t0c : Nat) (b c d : Int) (a : LL) : Int := bif vev112_0 Tk.lent (rn114s_2_1 t0i t0n t0c b c d a) d c then d else c
noncomputable def nx114s_2_5 (t0i t0n t0c : Nat) (b c d : Int) (a : LL) : Int := IntKind.i64.wrap (d + 1)
noncomputable def xc114s_2_0 (t0i t0n t0c : Nat) (b c d : Int) (a : LL) : Bool := bif bif decide (d ≤ rn114s_2_0 t0i t0n t0c b c d a) then decide (d < (↑t0n : Int)) else false then false else true
theorem rd114s_2 (rest : Lsp) (t0i t0n t0c : Nat) (b c d : Int) (a : LL) : rV k114 rest 114 1 j114 2 [0, 1, 4, 5] [0] [0, 1, 4] [0] [AV.rs 0 kI2 t0i t0n t0c, iA b, iA c, iA d] [Blk.row kI2 a] = bif go114s_2 t0i t0n t0c b c d a then some (Ex.norm, [AV.rs 0 kI2 t0i t0n t0c, iA b, iA (nx114s_2_4 t0i t0n t0c b c d a), iA (nx114s_2_5 t0i t0n t0c b c d a)], [Blk.row kI2 a]) else bif xc114s_2_0 t0i t0n t0c b c d a then some (Ex.exit 0, [AV.rs 0 kI2 t0i t0n t0c, iA b, iA c], [Blk.row kI2 a]) else none := by
 refine Eq.trans (b := bif bif decide (d ≤ rn114s_2_0 t0i t0n t0c b c d a) then true else true then bif bif decide (d ≤ rn114s_2_0 t0i t0n t0c b c d a) then bif true then decide (d < (↑t0n : Int)) else false else false then bif vev112_1 Tk.lent (rn114s_2_1 t0i t0n t0c b c d a) d c then bif vev112_0 Tk.lent (rn114s_2_1 t0i t0n t0c b c d a) d c then some (Ex.norm, [AV.rs 0 kI2 t0i t0n t0c, iA b, iA d, iA (IntKind.i64.wrap (d + 1))], [Blk.row kI2 a]) else some (Ex.norm, [AV.rs 0 kI2 t0i t0n t0c, iA b, iA c, iA (IntKind.i64.wrap (d + 1))], [Blk.row kI2 a]) else none else some (Ex.exit 0, [AV.rs 0 kI2 t0i t0n t0c, iA b, iA c], [Blk.row kI2 a]) else none) (by kernel_rfl) ?_
 unfold go114s_2 nx114s_2_4 nx114s_2_5 xc114s_2_0
 generalize (decide (d ≤ rn114s_2_0 t0i t0n t0c b c d a)) = c0
 generalize (decide (d < (↑t0n : Int))) = c1
 generalize (vev112_0 _ _ _ _) = c2
 generalize (vev112_1 _ _ _ _) = c3
 cases c0; rfl; cases c1; rfl; cases c3; rfl; cases c2; rfl; rfl
abbrev pl114s_2 : Type := Nat × Nat × Nat × Int × LL
abbrev sl114s_2 : Type := Int × Int
noncomputable def vt114s_2 (a : pl114s_2 × sl114s_2) : List AV := [AV.rs 0 kI2 a.1.1 a.1.2.1 a.1.2.2.1, iA a.1.2.2.2.1, iA a.2.1, iA a.2.2]
noncomputable def vc114s_2 (a : pl114s_2 × sl114s_2) : List Blk := [Blk.row kI2 a.1.2.2.2.2]
noncomputable def de114s_2 (vt : List AV) (vc : List Blk) : Option (pl114s_2 × sl114s_2) :=
 match vt with
 | [qa0, qa1, qa2, qa3] => (match vc with
 | [qb0] => (match qa0 with
 | AV.rs (0) [.int .i64, .int .i64] t0i t0n t0c => (match qa1 with
 | .int .i64 t1 => (match qa2 with
 | .int .i64 t4 => (match qa3 with
 | .int .i64 t5 => (match qb0 with
 | .row [.int .i64, .int .i64] b0 => (some ((t0i, t0n, t0c, t1, b0), (t4, t5)))
 | _ => none)
 | _ => none)
 | _ => none)
 | _ => none)
 | _ => none)
 | _ => none)
 | _ => none
theorem de114s_2_ok (vt : List AV) (vc : List Blk) (a : pl114s_2 × sl114s_2) (h : de114s_2 vt vc = some a) : vt = vt114s_2 a ∧ vc = vc114s_2 a := by
 unfold de114s_2 at h
 iterate 7 (split at h; rotate_left; · cases h)
 injection h with h; subst h; exact ⟨rfl, rfl⟩
noncomputable def g114s_2 (p : pl114s_2) (s : sl114s_2) : Bool := go114s_2 p.1 p.2.1 p.2.2.1 p.2.2.2.1 s.1 s.2 p.2.2.2.2
noncomputable def n114s_2 (p : pl114s_2) (s : sl114s_2) : sl114s_2 := (nx114s_2_4 p.1 p.2.1 p.2.2.1 p.2.2.2.1 s.1 s.2 p.2.2.2.2, nx114s_2_5 p.1 p.2.1 p.2.2.1 p.2.2.2.1 s.1 s.2 p.2.2.2.2)
noncomputable def y114s_2 (p : pl114s_2) (s : sl114s_2) : List (Bool × Out) := []
noncomputable def z114s_2 (p : pl114s_2) (s : sl114s_2) : Bool := xc114s_2_0 p.1 p.2.1 p.2.2.1 p.2.2.2.1 s.1 s.2 p.2.2.2.2
noncomputable def d114s_2 (p : pl114s_2) (s : sl114s_2) : Out := (Ex.exit 0, [AV.rs 0 kI2 p.1 p.2.1 p.2.2.1, iA p.2.2.2.1, iA s.1], [Blk.row kI2 p.2.2.2.2])
noncomputable def ls114s_2 := lspOf [0, 1, 4, 5] [0] [0, 1, 4] [0] j114.ntmps (1 + tab.nid 114) de114s_2 (spI g114s_2 n114s_2 y114s_2 z114s_2 d114s_2)
theorem lo114s_2 (rest : Lsp) : lO k114 (selL 2 ls114s_2 rest) 114 1 j114 2 := LoopOK1.iter (i := 2) (by kernel_rfl) [0, 1, 4, 5] [0] [0, 1, 4] [0] vt114s_2 vc114s_2 de114s_2 g114s_2 n114s_2 y114s_2 z114s_2 d114s_2 (fun _ => rfl) de114s_2_ok (fun p s => rd114s_2 (selL 2 ls114s_2 rest) (p.1) (p.2.1) (p.2.2.1) (p.2.2.2.1) (s.1) (s.2) (p.2.2.2.2)) (fun _ _ => rfl)
noncomputable def rn114s_0_0 (t0i t0n t0c : Nat) (t1 : Int) (b0 : LL) : sl114s_2 := finL (g114s_2 (t0i, t0n, t0c, t1, b0)) (n114s_2 (t0i, t0n, t0c, t1, b0)) (t1, IntKind.i64.wrap (IntKind.i64.wrap (2 * t1) + 1))
noncomputable def rn114s_0_1 (t0i t0n t0c : Nat) (t1 : Int) (b0 : LL) : Int := (rn114s_0_0 t0i t0n t0c t1 b0).fst
noncomputable def go114s_0 (t0i t0n t0c : Nat) (t1 : Int) (b0 : LL) : Bool := bif (spI g114s_2 n114s_2 y114s_2 z114s_2 d114s_2 ((t0i, t0n, t0c, t1, b0), t1, IntKind.i64.wrap (IntKind.i64.wrap (2 * t1) + 1))).fst then bif rn114s_0_1 t0i t0n t0c t1 b0 != t1 then bif decide (0 ≤ rn114s_0_1 t0i t0n t0c t1 b0) && decide (rn114s_0_1 t0i t0n t0c t1 b0 < (↑t0n : Int)) then decide (0 ≤ t1) && decide (t1 < (↑t0n : Int)) else false else false else false
noncomputable def nx114s_0_4 (t0i t0n t0c : Nat) (t1 : Int) (b0 : LL) : LL := (b0.set (t1.toNat + t0i) [iA (intOf ((b0.getD ((rn114s_0_1 t0i t0n t0c t1 b0).toNat + t0i) []).getD 0 AV.junk)), iA (intOf ((b0.getD ((rn114s_0_1 t0i t0n t0c t1 b0).toNat + t0i) []).getD (0 + 1) AV.junk))]).set ((rn114s_0_1 t0i t0n t0c t1 b0).toNat + t0i) [iA (intOf ((b0.getD (t1.toNat + t0i) []).getD 0 AV.junk)), iA (intOf ((b0.getD (t1.toNat + t0i) []).getD (0 + 1) AV.junk))]
noncomputable def xc114s_0_0 (t0i t0n t0c : Nat) (t1 : Int) (b0 : LL) : Bool := bif (spI g114s_2 n114s_2 y114s_2 z114s_2 d114s_2 ((t0i, t0n, t0c, t1, b0), t1, IntKind.i64.wrap (IntKind.i64.wrap (2 * t1) + 1))).fst then bif rn114s_0_1 t0i t0n t0c t1 b0 != t1 then false else true else false
theorem rd114s_0 (rest : Lsp) (t0i t0n t0c : Nat) (t1 : Int) (b0 : LL) : rV k114 (selL 2 ls114s_2 rest) 114 1 j114 0 [0, 1] [0] [] [0] [AV.rs 0 kI2 t0i t0n t0c, iA t1] [Blk.row kI2 b0] = bif go114s_0 t0i t0n t0c t1 b0 then some (Ex.norm, [AV.rs 0 kI2 t0i t0n t0c, iA (rn114s_0_1 t0i t0n t0c t1 b0)], [Blk.row kI2 (nx114s_0_4 t0i t0n t0c t1 b0)]) else bif xc114s_0_0 t0i t0n t0c t1 b0 then some (Ex.exit 1048576, [], [Blk.row kI2 b0]) else none := by
 refine Eq.trans (b := bif (spI g114s_2 n114s_2 y114s_2 z114s_2 d114s_2 ((t0i, t0n, t0c, t1, b0), t1, IntKind.i64.wrap (IntKind.i64.wrap (2 * t1) + 1))).fst then bif rn114s_0_1 t0i t0n t0c t1 b0 != t1 then bif decide (0 ≤ rn114s_0_1 t0i t0n t0c t1 b0) && decide (rn114s_0_1 t0i t0n t0c t1 b0 < (↑t0n : Int)) then bif decide (0 ≤ t1) && decide (t1 < (↑t0n : Int)) then bif decide (0 ≤ t1) && decide (t1 < (↑t0n : Int)) then bif decide (0 ≤ rn114s_0_1 t0i t0n t0c t1 b0) && decide (rn114s_0_1 t0i t0n t0c t1 b0 < (↑t0n : Int)) then some (Ex.norm, [AV.rs 0 kI2 t0i t0n t0c, iA (rn114s_0_1 t0i t0n t0c t1 b0)], [Blk.row kI2 ((b0.set (t1.toNat + t0i) [iA (intOf ((b0.getD ((rn114s_0_1 t0i t0n t0c t1 b0).toNat + t0i) []).getD 0 AV.junk)), iA (intOf ((b0.getD ((rn114s_0_1 t0i t0n t0c t1 b0).toNat + t0i) []).getD (0 + 1) AV.junk))]).set ((rn114s_0_1 t0i t0n t0c t1 b0).toNat + t0i) [iA (intOf ((b0.getD (t1.toNat + t0i) []).getD 0 AV.junk)), iA (intOf ((b0.getD (t1.toNat + t0i) []).getD (0 + 1) AV.junk))])]) else none else none else none else none else some (Ex.exit 1048576, [], [Blk.row kI2 b0]) else none) (by kernel_rfl) ?_
 unfold go114s_0 nx114s_0_4 xc114s_0_0
 generalize (spI g114s_2 _ _ _ _ _).fst = c0
 generalize (decide (0 ≤ rn114s_0_1 t0i t0n t0c t1 b0) && decide (rn114s_0_1 t0i t0n t0c t1 b0 < (↑t0n : Int))) = c1
 generalize (decide (0 ≤ t1) && decide (t1 < (↑t0n : Int))) = c2
 generalize (rn114s_0_1 t0i t0n t0c t1 b0 != t1) = c3
 cases c0; rfl; cases c3; rfl; cases c1; rfl; cases c2; rfl; rfl
abbrev pl114s_0 : Type := Nat × Nat × Nat
abbrev sl114s_0 : Type := Int × LL
noncomputable def vt114s_0 (a : pl114s_0 × sl114s_0) : List AV := [AV.rs 0 kI2 a.1.1 a.1.2.1 a.1.2.2, iA a.2.1]
noncomputable def vc114s_0 (a : pl114s_0 × sl114s_0) : List Blk := [Blk.row kI2 a.2.2]
noncomputable def de114s_0 (vt : List AV) (vc : List Blk) : Option (pl114s_0 × sl114s_0) :=
 match vt with
 | [qa0, qa1] => (match vc with
 | [qb0] => (match qa0 with
 | AV.rs (0) [.int .i64, .int .i64] t0i t0n t0c => (match qa1 with
 | .int .i64 t1 => (match qb0 with
 | .row [.int .i64, .int .i64] b0 => (some ((t0i, t0n, t0c), (t1, b0)))
 | _ => none)
 | _ => none)
 | _ => none)
 | _ => none)
 | _ => none
theorem de114s_0_ok (vt : List AV) (vc : List Blk) (a : pl114s_0 × sl114s_0) (h : de114s_0 vt vc = some a) : vt = vt114s_0 a ∧ vc = vc114s_0 a := by
 unfold de114s_0 at h
 iterate 5 (split at h; rotate_left; · cases h)
 injection h with h; subst h; exact ⟨rfl, rfl⟩
noncomputable def g114s_0 (p : pl114s_0) (s : sl114s_0) : Bool := go114s_0 p.1 p.2.1 p.2.2 s.1 s.2
noncomputable def n114s_0 (p : pl114s_0) (s : sl114s_0) : sl114s_0 := (rn114s_0_1 p.1 p.2.1 p.2.2 s.1 s.2, nx114s_0_4 p.1 p.2.1 p.2.2 s.1 s.2)
noncomputable def y114s_0 (p : pl114s_0) (s : sl114s_0) : List (Bool × Out) := []
noncomputable def z114s_0 (p : pl114s_0) (s : sl114s_0) : Bool := xc114s_0_0 p.1 p.2.1 p.2.2 s.1 s.2
noncomputable def d114s_0 (p : pl114s_0) (s : sl114s_0) : Out := (Ex.exit 1048576, [], [Blk.row kI2 s.2])
noncomputable def ls114s_0 := lspOf [0, 1] [0] [] [0] j114.ntmps (1 + tab.nid 114) de114s_0 (spI g114s_0 n114s_0 y114s_0 z114s_0 d114s_0)
theorem lo114s_0 (rest : Lsp) : lO k114 (selL 2 ls114s_2 (selL 0 ls114s_0 rest)) 114 1 j114 0 := LoopOK1.iter (i := 0) (by kernel_rfl) [0, 1] [0] [] [0] vt114s_0 vc114s_0 de114s_0 g114s_0 n114s_0 y114s_0 z114s_0 d114s_0 (fun _ => rfl) de114s_0_ok (fun p s => rd114s_0 (selL 0 ls114s_0 rest) (p.1) (p.2.1) (p.2.2) (s.1) (s.2)) (fun _ _ => rfl)
noncomputable def lsp114s : Lsp := (selL 2 ls114s_2 (selL 0 ls114s_0 noLsp))
theorem loops114s : ∀ c, j114.body = some c → lsO k114 lsp114s 114 1 j114 c := loops_of [0, 2] (by kernel_rfl) (by kernel_rfl) (fun i hi => by
 simp only [List.mem_cons, List.not_mem_nil, or_false] at hi
 rcases hi with rfl | rfl
 ·exact lo114s_0 noLsp
 ·exact lo114s_2 (selL 0 ls114s_0 noLsp))
noncomputable def rev114s_0 (es : LL) (n cp : Nat) (i : Int) : sl114s_0 := finL (g114s_0 (0, n, cp)) (n114s_0 (0, n, cp)) (i, es)
noncomputable def vev114s_0 (es : LL) (n cp : Nat) (i : Int) : LL := (rev114s_0 es n cp i).snd
noncomputable def vev114s_1 (es : LL) (n cp : Nat) (i : Int) : Bool := bif (spI g114s_0 n114s_0 y114s_0 z114s_0 d114s_0 ((0, n, cp), i, es)).fst then true else false
theorem ev114s (es : LL) (n cp : Nat) (i : Int) : eF k114 lsp114s 114 j114 [.rs 0 kI2 0 n cp, iA i] [.row kI2 es] = bif vev114s_1 es n cp i then some (true, AV.tup [], [Blk.row kI2 (vev114s_0 es n cp i)]) else none := by
 refine Eq.trans (b := bif (spI g114s_0 n114s_0 y114s_0 z114s_0 d114s_0 ((0, n, cp), i, es)).fst then some (true, AV.tup [], [Blk.row kI2 (rev114s_0 es n cp i).snd]) else none) (by kernel_rfl) ?_
 unfold vev114s_0 vev114s_1
 generalize (spI g114s_0 _ _ _ _ _).fst = c0
 cases c0
 ·skip
  rfl
 ·skip
  rfl
noncomputable def sp114s : Sp
 | [.rs 0 [.int .i64, .int .i64] 0 n cp, .int .i64 i], [.row [.int .i64, .int .i64] es] => spW (vev114s_1 es n cp i) (some ((true, AV.tup [], [Blk.row kI2 (vev114s_0 es n cp i)])))
 | _, _ => none
noncomputable def k114s : Gam := spG 114 sp114s k114
theorem k114s_ok : GamOK Try.prog k114s := spG_ok k114_ok fun T C r outs hs => by
   unfold sp114s at hs
   split at hs
   ·rename_i n cp i es
    obtain ⟨hb, rfl, rfl⟩ := spT_inv hs
    have he := ev114s es n cp i
    rw [hb, cond_true] at he
    obtain ⟨r0, o0, h0, he⟩ := evFin_inv he
    obtain ⟨h1, h2⟩ := fn_okJ mixed plain (gk_ok k114_ok 30) Try.func114 loops114s h0
    exact ⟨h1, h2.fin he⟩
   ·cases hs
noncomputable def rn109_2_0 (c : Tk) (a : LL) (b : Int) : Int := IntKind.i64.wrap ((IntKind.i64.wrap (b - 1)).tdiv 2)
noncomputable def go109_2 (c : Tk) (a : LL) (b : Int) : Bool := bif decide (b < (↑a.length : Int)) then bif vev112_1 c a b (rn109_2_0 c a b) then bif vev112_0 c a b (rn109_2_0 c a b) then false else true else false else false
noncomputable def nx109_2_2 (c : Tk) (a : LL) (b : Int) : Int := IntKind.i64.wrap (b + 1)
noncomputable def xc109_2_0 (c : Tk) (a : LL) (b : Int) : Bool := bif decide (b < (↑a.length : Int)) then bif vev112_1 c a b (rn109_2_0 c a b) then vev112_0 c a b (rn109_2_0 c a b) else false else false
noncomputable def xc109_2_1 (c : Tk) (a : LL) (b : Int) : Bool := bif decide (b < (↑a.length : Int)) then false else true
theorem rd109_2 (rest : Lsp) (c : Tk) (a : LL) (b : Int) : rV k114s rest 109 0 Try.f109 2 [0, 3] [] [2] [] [AV.sl c kI2 a, iA b] [] = bif go109_2 c a b then some (Ex.norm, [AV.sl c kI2 a, iA (nx109_2_2 c a b)], []) else bif xc109_2_0 c a b then some (Ex.ret, [iA 10], []) else bif xc109_2_1 c a b then some (Ex.exit 0, [AV.junk], []) else none := by
 refine Eq.trans (b := bif decide (b < (↑a.length : Int)) then bif vev112_1 c a b (rn109_2_0 c a b) then bif vev112_0 c a b (rn109_2_0 c a b) then some (Ex.ret, [iA 10], []) else some (Ex.norm, [AV.sl c kI2 a, iA (IntKind.i64.wrap (b + 1))], []) else none else some (Ex.exit 0, [AV.junk], [])) (by kernel_rfl) ?_
 unfold go109_2 nx109_2_2 xc109_2_0 xc109_2_1
 generalize (decide (b < (↑a.length : Int))) = c0
 generalize (vev112_0 _ _ _ _) = c1
 generalize (vev112_1 _ _ _ _) = c2
 cases c0; rfl; cases c2; rfl; cases c1; rfl; rfl
abbrev pl109_2 : Type := Tk × LL
abbrev sl109_2 : Type := Int
noncomputable def vt109_2 (a : pl109_2 × sl109_2) : List AV := [AV.sl a.1.1 kI2 a.1.2, iA a.2]
noncomputable def vc109_2 (a : pl109_2 × sl109_2) : List Blk := []
noncomputable def de109_2 (vt : List AV) (vc : List Blk) : Option (pl109_2 × sl109_2) :=
 match vt with
 | [qa0, qa1] => (match vc with
 | [] => (match qa0 with
 | .sl t0k [.int .i64, .int .i64] t0 => (match qa1 with
 | .int .i64 t3 => (some ((t0k, t0), t3))
 | _ => none)
 | _ => none)
 | _ => none)
 | _ => none
theorem de109_2_ok (vt : List AV) (vc : List Blk) (a : pl109_2 × sl109_2) (h : de109_2 vt vc = some a) : vt = vt109_2 a ∧ vc = vc109_2 a := by
 unfold de109_2 at h
 iterate 4 (split at h; rotate_left; · cases h)
 injection h with h; subst h; exact ⟨rfl, rfl⟩
noncomputable def g109_2 (p : pl109_2) (s : sl109_2) : Bool := go109_2 p.1 p.2 s
noncomputable def n109_2 (p : pl109_2) (s : sl109_2) : sl109_2 := nx109_2_2 p.1 p.2 s
noncomputable def y109_2 (p : pl109_2) (s : sl109_2) : List (Bool × Out) := [(xc109_2_0 p.1 p.2 s, (Ex.ret, [iA 10], []))]
noncomputable def z109_2 (p : pl109_2) (s : sl109_2) : Bool := xc109_2_1 p.1 p.2 s
noncomputable def d109_2 (p : pl109_2) (s : sl109_2) : Out := (Ex.exit 0, [AV.junk], [])
noncomputable def ls109_2 := lspOf [0, 3] [] [2] [] Try.f109.ntmps (0 + tab.nid 109) de109_2 (spI g109_2 n109_2 y109_2 z109_2 d109_2)
theorem lo109_2 (rest : Lsp) : lO k114s (selL 2 ls109_2 rest) 109 0 Try.f109 2 := LoopOK1.iter (i := 2) (by kernel_rfl) [0, 3] [] [2] [] vt109_2 vc109_2 de109_2 g109_2 n109_2 y109_2 z109_2 d109_2 (fun _ => rfl) de109_2_ok (fun p s => rd109_2 (selL 2 ls109_2 rest) (p.1) (p.2) s) (fun _ _ => rfl)
noncomputable def lsp109 : Lsp := (selL 2 ls109_2 noLsp)
theorem loops109 : ∀ c, Try.f109.body = some c → lsO k114s lsp109 109 0 Try.f109 c := loops_of [2] (by kernel_rfl) (by kernel_rfl) (fun i hi => by simp only [List.mem_cons, List.not_mem_nil, or_false] at hi; subst hi; exact lo109_2 noLsp)
noncomputable def rev109_0 (tk : Tk) (es : LL) : sl109_2 := finL (g109_2 (tk, es)) (n109_2 (tk, es)) 1
noncomputable def vev109_0 (tk : Tk) (es : LL) : Int := bif xc109_2_0 tk es (rev109_0 tk es) then 10 else 0
noncomputable def vev109_1 (tk : Tk) (es : LL) : Bool := bif (spI g109_2 n109_2 y109_2 z109_2 d109_2 ((tk, es), 1)).fst then true else false
theorem ev109 (tk : Tk) (es : LL) : eF k114s lsp109 109 Try.f109 [.sl tk kI2 es] [] = bif vev109_1 tk es then some (true, iA (vev109_0 tk es), []) else none := by
 refine Eq.trans (b := bif (spI g109_2 n109_2 y109_2 z109_2 d109_2 ((tk, es), 1)).fst then bif xc109_2_0 tk es (rev109_0 tk es) then some (true, iA 10, []) else some (true, iA 0, []) else none) (by kernel_rfl) ?_
 unfold vev109_0 vev109_1
 generalize (spI g109_2 _ _ _ _ _).fst = c0
 generalize (xc109_2_0 _ _ _) = c1
 cases c0; rfl; cases c1; rfl; rfl
noncomputable def sp109 : Sp
 | [.sl tk [.int .i64, .int .i64] es], [] => spW (vev109_1 tk es) (some ((true, iA (vev109_0 tk es), [])))
 | _, _ => none
noncomputable def k109 : Gam := spG 109 sp109 k114s
theorem k109_ok : GamOK Try.prog k109 := spG_ok k114s_ok fun T C r outs hs => by
   unfold sp109 at hs
   split at hs
   ·exact okE k114s_ok Try.func109 loops109 (ev109 _ _) hs
   ·cases hs
noncomputable def go110_3 (t4 : Int) (b1 : LL) : Bool := bif decide (t4 ≥ 0) then vev114_1 b1 t4 else false
noncomputable def nx110_3_0 (t4 : Int) (b1 : LL) : Int := IntKind.i64.wrap (t4 - 1)
noncomputable def xc110_3_0 (t4 : Int) (b1 : LL) : Bool := bif decide (t4 ≥ 0) then false else true
theorem rd110_3 (rest : Lsp) (t4 : Int) (b1 : LL) : rV k109 rest 110 0 Try.f110 3 [3, 4] [0, 1] [3] [0, 1] [AV.rf 1 kI2, iA t4] [Blk.dead, Blk.row kI2 b1] = bif go110_3 t4 b1 then some (Ex.norm, [AV.rf 1 kI2, iA (nx110_3_0 t4 b1)], [Blk.dead, Blk.row kI2 (vev114_0 b1 t4)]) else bif xc110_3_0 t4 b1 then some (Ex.exit 0, [AV.rf 1 kI2], [Blk.dead, Blk.row kI2 b1]) else none := by
 refine Eq.trans (b := bif decide (t4 ≥ 0) then bif vev114_1 b1 t4 then some (Ex.norm, [AV.rf 1 kI2, iA (IntKind.i64.wrap (t4 - 1))], [Blk.dead, Blk.row kI2 (vev114_0 b1 t4)]) else none else some (Ex.exit 0, [AV.rf 1 kI2], [Blk.dead, Blk.row kI2 b1])) (by kernel_rfl) ?_
 unfold go110_3 nx110_3_0 xc110_3_0
 generalize (decide (t4 ≥ 0)) = c0
 generalize (vev114_1 _ _) = c1
 cases c0; rfl; cases c1; rfl; rfl
abbrev pl110_3 : Type := Unit
abbrev sl110_3 : Type := Int × LL
noncomputable def vt110_3 (a : pl110_3 × sl110_3) : List AV := [AV.rf 1 kI2, iA a.2.1]
noncomputable def vc110_3 (a : pl110_3 × sl110_3) : List Blk := [Blk.dead, Blk.row kI2 a.2.2]
noncomputable def de110_3 (vt : List AV) (vc : List Blk) : Option (pl110_3 × sl110_3) :=
 match vt with
 | [qa0, qa1] => (match vc with
 | [qb0, qb1] => (match qa0 with
 | AV.rf (1) [.int .i64, .int .i64] => (match qa1 with
 | .int .i64 t4 => (match qb0 with
 | Blk.dead => (match qb1 with
 | .row [.int .i64, .int .i64] b1 => (some ((), (t4, b1)))
 | _ => none)
 | _ => none)
 | _ => none)
 | _ => none)
 | _ => none)
 | _ => none
theorem de110_3_ok (vt : List AV) (vc : List Blk) (a : pl110_3 × sl110_3) (h : de110_3 vt vc = some a) : vt = vt110_3 a ∧ vc = vc110_3 a := by
 unfold de110_3 at h
 iterate 6 (split at h; rotate_left; · cases h)
 injection h with h; subst h; exact ⟨rfl, rfl⟩
noncomputable def g110_3 (p : pl110_3) (s : sl110_3) : Bool := go110_3 s.1 s.2
noncomputable def n110_3 (p : pl110_3) (s : sl110_3) : sl110_3 := (nx110_3_0 s.1 s.2, vev114_0 s.2 s.1)
noncomputable def y110_3 (p : pl110_3) (s : sl110_3) : List (Bool × Out) := []
noncomputable def z110_3 (p : pl110_3) (s : sl110_3) : Bool := xc110_3_0 s.1 s.2
noncomputable def d110_3 (p : pl110_3) (s : sl110_3) : Out := (Ex.exit 0, [AV.rf 1 kI2], [Blk.dead, Blk.row kI2 s.2])
noncomputable def ls110_3 := lspOf [3, 4] [0, 1] [3] [0, 1] Try.f110.ntmps (0 + tab.nid 110) de110_3 (spI g110_3 n110_3 y110_3 z110_3 d110_3)
theorem lo110_3 (rest : Lsp) : lO k109 (selL 3 ls110_3 rest) 110 0 Try.f110 3 := LoopOK1.iter (i := 3) (by kernel_rfl) [3, 4] [0, 1] [3] [0, 1] vt110_3 vc110_3 de110_3 g110_3 n110_3 y110_3 z110_3 d110_3 (fun _ => rfl) de110_3_ok (fun p s => rd110_3 (selL 3 ls110_3 rest) (s.1) (s.2)) (fun _ _ => rfl)
noncomputable def lsp110 : Lsp := (selL 3 ls110_3 noLsp)
theorem loops110 : ∀ c, Try.f110.body = some c → lsO k109 lsp110 110 0 Try.f110 c := loops_of [3] (by kernel_rfl) (by kernel_rfl) (fun i hi => by simp only [List.mem_cons, List.not_mem_nil, or_false] at hi; subst hi; exact lo110_3 noLsp)
noncomputable def rev110_0 (tk : Tk) (es : LL) : sl110_3 := finL (g110_3 ()) (n110_3 ()) (IntKind.i64.wrap (IntKind.i64.wrap ((↑es.length : Int).tdiv 2) - 1), es)
noncomputable def vev110_0 (tk : Tk) (es : LL) : LL := (rev110_0 tk es).snd
noncomputable def vev110_1 (tk : Tk) (es : LL) : Bool := bif (es.length * 16).ble 140737488355328 then bif (spI g110_3 n110_3 y110_3 z110_3 d110_3 ((), IntKind.i64.wrap (IntKind.i64.wrap ((↑es.length : Int).tdiv 2) - 1), es)).fst then true else false else false
theorem ev110 (tk : Tk) (es : LL) : evFun (cfg Try.prog tab 100000 (gk k109 30) lsp110 110 ([] : List Blk).length Try.f110.ntmps) Try.f110 [.sl tk kI2 es] [] = bif vev110_1 tk es then some (AV.rf 0 kI2, [Blk.row kI2 (vev110_0 tk es)]) else none := by
 refine Eq.trans (b := bif (es.length * 16).ble 140737488355328 then bif (spI g110_3 n110_3 y110_3 z110_3 d110_3 ((), IntKind.i64.wrap (IntKind.i64.wrap ((↑es.length : Int).tdiv 2) - 1), es)).fst then some (AV.rf 0 kI2, [Blk.row kI2 (rev110_0 tk es).snd]) else none else none) (by kernel_rfl) ?_
 unfold vev110_0 vev110_1
 generalize (spI g110_3 _ _ _ _ _).fst = c0
 generalize ((es.length * 16).ble 140737488355328) = c1
 cases c1; rfl; cases c0; rfl; rfl
noncomputable def sp110 : Sp
 | [.sl tk [.int .i64, .int .i64] es], [] => spW (vev110_1 tk es) (fin Try.prog (tab.frz 110) ([] : List Blk).length Try.f110.resultTypes.toList (some ((AV.rf 0 kI2, [Blk.row kI2 (vev110_0 tk es)]))))
 | _, _ => none
noncomputable def k110 : Gam := spG 110 sp110 k109
theorem k110_ok : GamOK Try.prog k110 := spG_ok k109_ok fun T C r outs hs => by
   unfold sp110 at hs
   split at hs
   ·rename_i tk es
    obtain ⟨hb, hs⟩ := spW_inv hs
    have he := ev110 tk es
    rw [hb, cond_true] at he
    obtain ⟨h1, h2⟩ := fn_ok mixed plain (gk_ok k109_ok 30) Try.func110 loops110 he
    exact ⟨h1, h2.fin hs⟩
   ·cases hs
noncomputable def vev86_0 (tk : Tk) (es : LL) : LL := bif vev109_0 tk es != 0 then vev110_0 tk es else es
noncomputable def vev86_1 (tk : Tk) (es : LL) : Bool := bif vev109_1 tk es then bif vev109_0 tk es != 0 then bif vev110_1 tk es then true else false else bif (es.length * 16).ble 140737488355328 then true else false else false
theorem ev86 (tk : Tk) (es : LL) : evFun (cfg Try.prog tab 100000 (gk k110 30) noLsp 86 ([] : List Blk).length Try.f86.ntmps) Try.f86 [.sl tk kI2 es] [] = bif vev86_1 tk es then some (AV.rf 0 kI2, [Blk.row kI2 (vev86_0 tk es)]) else none := by
 refine Eq.trans (b := bif vev109_1 tk es then bif vev109_0 tk es != 0 then bif vev110_1 tk es then some (AV.rf 0 kI2, [Blk.row kI2 (vev110_0 tk es)]) else none else bif (es.length * 16).ble 140737488355328 then some (AV.rf 0 kI2, [Blk.row kI2 es]) else none else none) (by kernel_rfl) ?_
 unfold vev86_0 vev86_1
 generalize ((es.length * 16).ble 140737488355328) = c0
 generalize (vev109_0 tk es != 0) = c1
 generalize (vev109_1 _ _) = c2
 generalize (vev110_1 _ _) = c3
 cases c2; rfl; cases c1; cases c0; rfl; rfl; cases c3; rfl; rfl
noncomputable def sp86 : Sp
 | [.sl tk [.int .i64, .int .i64] es], [] => spW (vev86_1 tk es) (fin Try.prog (tab.frz 86) ([] : List Blk).length Try.f86.resultTypes.toList (some ((AV.rf 0 kI2, [Blk.row kI2 (vev86_0 tk es)]))))
 | _, _ => none
noncomputable def k86 : Gam := spG 86 sp86 k110
theorem k86_ok : GamOK Try.prog k86 := spG_ok k110_ok fun T C r outs hs => by
   unfold sp86 at hs
   split at hs
   ·rename_i tk es
    obtain ⟨hb, hs⟩ := spW_inv hs
    have he := ev86 tk es
    rw [hb, cond_true] at he
    obtain ⟨h1, h2⟩ := fn_ok mixed plain (gk_ok k110_ok 30) Try.func86 (fun c _ => LoopsOK.none (fun _ _ => rfl) c) he
    exact ⟨h1, h2.fin hs⟩
   ·cases hs
noncomputable def rev99_0 (es : LL) (i : Int) : Int := IntKind.i64.wrap ((↑es.length : Int) - 1)
noncomputable def rev99_1 (es : LL) (i : Int) : LL := es.set i.toNat (over (fitRow kI2 (es.getD i.toNat [])) 0 (List.take 2 (List.drop 0 (fitRow kI2 (es.getD (rev99_0 es i).toNat [])))))
noncomputable def rev99_2 (es : LL) (i : Int) : Int := (↑(rev99_1 es i).length : Int)
noncomputable def rev99_3 (es : LL) (i : Int) : LL := vev114s_0 (rev99_1 es i) (rev99_0 es i).toNat (rev99_1 es i).length i
noncomputable def vev99_0 (es : LL) (i : Int) : LL := bif decide (i < rev99_0 es i) then vev87s_0 (rev99_3 es i) (rev99_0 es i).toNat (rev99_1 es i).length i else es.set i.toNat [iA (intOf ((es.getD (rev99_0 es i).toNat []).getD 0 AV.junk)), iA (intOf ((es.getD (rev99_0 es i).toNat []).getD (0 + 1) AV.junk))]
noncomputable def vev99_1 (es : LL) (i : Int) : Bool := bif decide (0 ≤ rev99_0 es i) && decide (rev99_0 es i < (↑es.length : Int)) then bif decide (0 ≤ i) && decide (i < (↑es.length : Int)) then bif bif decide ((0 : Int) ≤ 0) && decide (0 ≤ rev99_0 es i) then decide (rev99_0 es i ≤ rev99_2 es i) else false then bif decide (i < rev99_0 es i) then bif vev114s_1 (rev99_1 es i) (rev99_0 es i).toNat (rev99_1 es i).length i then bif vev87s_1 (rev99_3 es i) (rev99_0 es i).toNat (rev99_1 es i).length i then true else false else false else true else false else false else false
theorem ev99 (es : LL) (i : Int) : eF k86 noLsp 99 Try.f99 [.rf 0 kI2, iA i] [.row kI2 es] = bif vev99_1 es i then some (true, AV.rs 0 kI2 0 (rev99_0 es i).toNat (rev99_1 es i).length, [Blk.row kI2 (vev99_0 es i)]) else none := by
 refine Eq.trans (b := bif decide (0 ≤ rev99_0 es i) && decide (rev99_0 es i < (↑es.length : Int)) then bif decide (0 ≤ i) && decide (i < (↑es.length : Int)) then bif bif decide ((0 : Int) ≤ 0) && decide (0 ≤ rev99_0 es i) then decide (rev99_0 es i ≤ rev99_2 es i) else false then bif decide (i < rev99_0 es i) then bif vev114s_1 (rev99_1 es i) (rev99_0 es i).toNat (rev99_1 es i).length i then bif vev87s_1 (rev99_3 es i) (rev99_0 es i).toNat (rev99_1 es i).length i then some (true, AV.rs 0 kI2 0 (rev99_0 es i).toNat (rev99_1 es i).length, [Blk.row kI2 (vev87s_0 (rev99_3 es i) (rev99_0 es i).toNat (rev99_1 es i).length i)]) else none else none else some (true, AV.rs 0 kI2 0 (rev99_0 es i).toNat (rev99_1 es i).length, [Blk.row kI2 (es.set i.toNat [iA (intOf ((es.getD (rev99_0 es i).toNat []).getD 0 AV.junk)), iA (intOf ((es.getD (rev99_0 es i).toNat []).getD (0 + 1) AV.junk))])]) else none else none else none) (by kernel_rfl) ?_
 unfold vev99_0 vev99_1
 generalize (decide ((0 : Int) ≤ 0) && decide (0 ≤ rev99_0 es i)) = c0
 generalize (decide (0 ≤ rev99_0 es i) && decide (rev99_0 es i < (↑es.length : Int))) = c1
 generalize (decide (0 ≤ i) && decide (i < (↑es.length : Int))) = c2
 generalize (decide (rev99_0 es i ≤ rev99_2 es i)) = c3
 generalize (vev87s_1 (rev99_3 es i) (rev99_0 es i).toNat (rev99_1 es i).length i) = c4
 generalize (vev114s_1 (rev99_1 es i) (rev99_0 es i).toNat (rev99_1 es i).length i) = c5
 generalize (decide (i < rev99_0 es i)) = c6
 cases c1; rfl; cases c2; rfl; cases c0; rfl; cases c3; rfl; cases c6; rfl; cases c5; rfl; cases c4; rfl; rfl
noncomputable def sp99 : Sp
 | [.rf 0 [.int .i64, .int .i64], .int .i64 i], [.row [.int .i64, .int .i64] es] => spW (vev99_1 es i) (some ((true, AV.rs 0 kI2 0 (rev99_0 es i).toNat (rev99_1 es i).length, [Blk.row kI2 (vev99_0 es i)])))
 | _, _ => none
noncomputable def k99 : Gam := spG 99 sp99 k86
theorem k99_ok : GamOK Try.prog k99 := spG_ok k86_ok fun T C r outs hs => by
   unfold sp99 at hs
   split at hs
   ·exact okE k86_ok Try.func99 (fun c _ => LoopsOK.none (fun _ _ => rfl) c) (ev99 _ _) hs
   ·cases hs
noncomputable def vev121_0 (a b id : Int) : Bool := b == id
theorem ev121 (a b id : Int) : eF k99 noLsp 121 Try.f121 [.agg [iA a, iA b], .hp 0 0] [.var [iA id]] = some (true, AV.bool (vev121_0 a b id), [Blk.var [iA id]]) := by kernel_rfl
noncomputable def sp121 : Sp
 | [.agg [.int .i64 a, .int .i64 b], .hp 0 0], [.var [.int .i64 id]] => spW (true) (some ((true, AV.bool (vev121_0 a b id), [Blk.var [iA id]])))
 | _, _ => none
noncomputable def k121 : Gam := spG 121 sp121 k99
theorem k121_ok : GamOK Try.prog k121 := spG_ok k99_ok fun T C r outs hs => by
   unfold sp121 at hs
   split at hs
   ·rename_i a b id
    obtain ⟨hb, rfl, rfl⟩ := spT_inv hs
    have he := ev121 a b id
    obtain ⟨r0, o0, h0, he⟩ := evFin_inv he
    obtain ⟨h1, h2⟩ := fn_ok mixed plain (gk_ok k99_ok 30) Try.func121 (fun c _ => LoopsOK.none (fun _ _ => rfl) c) h0
    exact ⟨h1, h2.fin he⟩
   ·cases hs
noncomputable def go120_2 (d : Tk) (a : LL) (b c e : Int) : Bool := bif decide (c < b) then bif decide (0 ≤ c) && decide (c < (↑a.length : Int)) then bif vev121_0 (intOf ((a.getD c.toNat []).getD 0 AV.junk)) (intOf ((a.getD c.toNat []).getD (0 + 1) AV.junk)) e then false else true else false else false
noncomputable def nx120_2_3 (d : Tk) (a : LL) (b c e : Int) : Int := IntKind.i64.wrap (c + 1)
noncomputable def xc120_2_0 (d : Tk) (a : LL) (b c e : Int) : Bool := bif decide (c < b) then bif decide (0 ≤ c) && decide (c < (↑a.length : Int)) then vev121_0 (intOf ((a.getD c.toNat []).getD 0 AV.junk)) (intOf ((a.getD c.toNat []).getD (0 + 1) AV.junk)) e else false else false
noncomputable def xc120_2_1 (d : Tk) (a : LL) (b c e : Int) : Bool := bif decide (c < b) then false else true
theorem rd120_2 (rest : Lsp) (d : Tk) (a : LL) (b c e : Int) : rV k121 rest 120 1 Try.f120 2 [0, 1, 7, 8] [0] [4] [0] [AV.sl d kI2 a, AV.fn 121 [AV.hp 0 0], iA b, iA c] [Blk.var [iA e]] = bif go120_2 d a b c e then some (Ex.norm, [AV.sl d kI2 a, AV.fn 121 [AV.hp 0 0], iA b, iA (nx120_2_3 d a b c e)], [Blk.var [iA e]]) else bif xc120_2_0 d a b c e then some (Ex.ret, [iA c], [Blk.var [iA e]]) else bif xc120_2_1 d a b c e then some (Ex.exit 0, [AV.junk], [Blk.var [iA e]]) else none := by
 refine Eq.trans (b := bif decide (c < b) then bif decide (0 ≤ c) && decide (c < (↑a.length : Int)) then bif vev121_0 (intOf ((a.getD c.toNat []).getD 0 AV.junk)) (intOf ((a.getD c.toNat []).getD (0 + 1) AV.junk)) e then some (Ex.ret, [iA c], [Blk.var [iA e]]) else some (Ex.norm, [AV.sl d kI2 a, AV.fn 121 [AV.hp 0 0], iA b, iA (IntKind.i64.wrap (c + 1))], [Blk.var [iA e]]) else none else some (Ex.exit 0, [AV.junk], [Blk.var [iA e]])) (by kernel_rfl) ?_
 unfold go120_2 nx120_2_3 xc120_2_0 xc120_2_1
 generalize (vev121_0 _ _ _) = c0
 generalize (decide (0 ≤ c) && decide (c < (↑a.length : Int))) = c1
 generalize (decide (c < b)) = c2
 cases c2; rfl; cases c1; rfl; cases c0; rfl; rfl
abbrev pl120_2 : Type := Tk × LL × Int × Int
abbrev sl120_2 : Type := Int
noncomputable def vt120_2 (a : pl120_2 × sl120_2) : List AV := [AV.sl a.1.1 kI2 a.1.2.1, AV.fn 121 [AV.hp 0 0], iA a.1.2.2.1, iA a.2]
noncomputable def vc120_2 (a : pl120_2 × sl120_2) : List Blk := [Blk.var [iA a.1.2.2.2]]
noncomputable def de120_2 (vt : List AV) (vc : List Blk) : Option (pl120_2 × sl120_2) :=
 match vt with
 | [qa0, qa1, qa2, qa3] => (match vc with
 | [qb0] => (match qa0 with
 | .sl t0k [.int .i64, .int .i64] t0 => (match qa1 with
 | AV.fn (121) [AV.hp (0) (0)] => (match qa2 with
 | .int .i64 t7 => (match qa3 with
 | .int .i64 t8 => (match qb0 with
 | .var [.int .i64 b0_0] => (some ((t0k, t0, t7, b0_0), t8))
 | _ => none)
 | _ => none)
 | _ => none)
 | _ => none)
 | _ => none)
 | _ => none)
 | _ => none
theorem de120_2_ok (vt : List AV) (vc : List Blk) (a : pl120_2 × sl120_2) (h : de120_2 vt vc = some a) : vt = vt120_2 a ∧ vc = vc120_2 a := by
 unfold de120_2 at h
 iterate 7 (split at h; rotate_left; · cases h)
 injection h with h; subst h; exact ⟨rfl, rfl⟩
noncomputable def g120_2 (p : pl120_2) (s : sl120_2) : Bool := go120_2 p.1 p.2.1 p.2.2.1 s p.2.2.2
noncomputable def n120_2 (p : pl120_2) (s : sl120_2) : sl120_2 := nx120_2_3 p.1 p.2.1 p.2.2.1 s p.2.2.2
noncomputable def y120_2 (p : pl120_2) (s : sl120_2) : List (Bool × Out) := [(xc120_2_0 p.1 p.2.1 p.2.2.1 s p.2.2.2, (Ex.ret, [iA s], [Blk.var [iA p.2.2.2]]))]
noncomputable def z120_2 (p : pl120_2) (s : sl120_2) : Bool := xc120_2_1 p.1 p.2.1 p.2.2.1 s p.2.2.2
noncomputable def d120_2 (p : pl120_2) (s : sl120_2) : Out := (Ex.exit 0, [AV.junk], [Blk.var [iA p.2.2.2]])
noncomputable def ls120_2 := lspOf [0, 1, 7, 8] [0] [4] [0] Try.f120.ntmps (1 + tab.nid 120) de120_2 (spI g120_2 n120_2 y120_2 z120_2 d120_2)
theorem lo120_2 (rest : Lsp) : lO k121 (selL 2 ls120_2 rest) 120 1 Try.f120 2 := LoopOK1.iter (i := 2) (by kernel_rfl) [0, 1, 7, 8] [0] [4] [0] vt120_2 vc120_2 de120_2 g120_2 n120_2 y120_2 z120_2 d120_2 (fun _ => rfl) de120_2_ok (fun p s => rd120_2 (selL 2 ls120_2 rest) (p.1) (p.2.1) (p.2.2.1) s (p.2.2.2)) (fun _ _ => rfl)
noncomputable def lsp120 : Lsp := (selL 2 ls120_2 noLsp)
theorem loops120 : ∀ c, Try.f120.body = some c → lsO k121 lsp120 120 1 Try.f120 c := loops_of [2] (by kernel_rfl) (by kernel_rfl) (fun i hi => by simp only [List.mem_cons, List.not_mem_nil, or_false] at hi; subst hi; exact lo120_2 noLsp)
noncomputable def rev120_0 (tk : Tk) (es : LL) (id : Int) : sl120_2 := finL (g120_2 (tk, es, (↑es.length : Int), id)) (n120_2 (tk, es, (↑es.length : Int), id)) 0
noncomputable def vev120_0 (tk : Tk) (es : LL) (id : Int) : sl120_2 := bif xc120_2_0 tk es (↑es.length : Int) (rev120_0 tk es id) id then rev120_0 tk es id else (-1)
noncomputable def vev120_1 (tk : Tk) (es : LL) (id : Int) : Bool := bif (spI g120_2 n120_2 y120_2 z120_2 d120_2 ((tk, es, (↑es.length : Int), id), 0)).fst then true else false
theorem ev120 (tk : Tk) (es : LL) (id : Int) : eF k121 lsp120 120 Try.f120 [.sl tk kI2 es, .fn 121 [.hp 0 0]] [.var [iA id]] = bif vev120_1 tk es id then some (true, iA (vev120_0 tk es id), [Blk.var [iA id]]) else none := by
 refine Eq.trans (b := bif (spI g120_2 n120_2 y120_2 z120_2 d120_2 ((tk, es, (↑es.length : Int), id), 0)).fst then bif xc120_2_0 tk es (↑es.length : Int) (rev120_0 tk es id) id then some (true, iA (rev120_0 tk es id), [Blk.var [iA id]]) else some (true, iA (-1), [Blk.var [iA id]]) else none) (by kernel_rfl) ?_
 unfold vev120_0 vev120_1
 generalize (spI g120_2 _ _ _ _ _).fst = c0
 generalize (xc120_2_0 _ _ _ _ _) = c1
 cases c0; rfl; cases c1; rfl; rfl
noncomputable def sp120 : Sp
 | [.sl tk [.int .i64, .int .i64] es, .fn 121 [.hp 0 0]], [.var [.int .i64 id]] => spW (vev120_1 tk es id) (some ((true, iA (vev120_0 tk es id), [Blk.var [iA id]])))
 | _, _ => none
noncomputable def k120 : Gam := spG 120 sp120 k121
theorem k120_ok : GamOK Try.prog k120 := spG_ok k121_ok fun T C r outs hs => by
   unfold sp120 at hs
   split at hs
   ·exact okE k121_ok Try.func120 loops120 (ev120 _ _ _) hs
   ·cases hs
noncomputable def vev113_0 (tk : Tk) (es : LL) (id : Int) : Bool := bif vev120_1 tk es id then true else false
theorem ev113 (tk : Tk) (es : LL) (id : Int) : eF k120 noLsp 113 Try.f113 [.sl tk kI2 es, iA id] [] = bif vev113_0 tk es id then some (true, iA (vev120_0 tk es id), []) else none := by
 refine Eq.trans (b := bif vev120_1 tk es id then some (true, iA (vev120_0 tk es id), []) else none) (by kernel_rfl) ?_
 unfold vev113_0
 generalize (vev120_1 _ _ _) = c0
 cases c0
 ·skip
  rfl
 ·skip
  rfl
noncomputable def sp113 : Sp
 | [.sl tk [.int .i64, .int .i64] es, .int .i64 id], [] => spW (vev113_0 tk es id) (some ((true, iA (vev120_0 tk es id), [])))
 | _, _ => none
noncomputable def k113 : Gam := spG 113 sp113 k120
theorem k113_ok : GamOK Try.prog k113 := spG_ok k120_ok fun T C r outs hs => by
   unfold sp113 at hs
   split at hs
   ·exact okE k120_ok Try.func113 (fun c _ => LoopsOK.none (fun _ _ => rfl) c) (ev113 _ _ _) hs
   ·cases hs
noncomputable def rev50_0 (tk : Tk) (es : LL) (a b : Int) : LL := [[iA a, iA b]]
noncomputable def rev50_1 (tk : Tk) (es : LL) (a b : Int) : LL := vev86_0 tk es ++ rev50_0 tk es a b
noncomputable def rev50_2 (tk : Tk) (es : LL) (a b : Int) : Int := IntKind.i64.wrap ((↑(rev50_1 tk es a b).length : Int) - 1)
noncomputable def vev50_0 (tk : Tk) (es : LL) (a b : Int) : LL := vev87_0 (rev50_1 tk es a b) (rev50_2 tk es a b)
noncomputable def vev50_1 (tk : Tk) (es : LL) (a b : Int) : Bool := bif vev86_1 tk es then bif bif decide (((vev86_0 tk es).length + (rev50_0 tk es a b).length) * 16 ≤ 140737488355328) then decide ((vev86_0 tk es).length + (rev50_0 tk es a b).length ≤ 9223372036854775807) else false then bif vev87_1 (rev50_1 tk es a b) (rev50_2 tk es a b) then true else false else false else false
theorem ev50 (tk : Tk) (es : LL) (a b : Int) : eF k113 noLsp 50 Try.f50 [.sl tk kI2 es, .agg [iA a, iA b]] [] = bif vev50_1 tk es a b then some (true, AV.sl Tk.imm kI2 (vev50_0 tk es a b), []) else none := by
 refine Eq.trans (b := bif vev86_1 tk es then bif bif decide (((vev86_0 tk es).length + (rev50_0 tk es a b).length) * 16 ≤ 140737488355328) then decide ((vev86_0 tk es).length + (rev50_0 tk es a b).length ≤ 9223372036854775807) else false then bif vev87_1 (rev50_1 tk es a b) (rev50_2 tk es a b) then some (true, AV.sl Tk.imm kI2 (vev87_0 (rev50_1 tk es a b) (rev50_2 tk es a b)), []) else none else none else none) (by kernel_rfl) ?_
 unfold vev50_0 vev50_1
 generalize (decide (((vev86_0 tk es).length + (rev50_0 tk es a b).length) * 16 ≤ 140737488355328)) = c0
 generalize (decide ((vev86_0 tk es).length + (rev50_0 tk es a b).length ≤ 9223372036854775807)) = c1
 generalize (vev87_1 _ _) = c2
 generalize (vev86_1 _ _) = c3
 cases c3; rfl; cases c0; rfl; cases c1; rfl; cases c2; rfl; rfl
noncomputable def sp50 : Sp
 | [.sl tk [.int .i64, .int .i64] es, .agg [.int .i64 a, .int .i64 b]], [] => spW (vev50_1 tk es a b) (some ((true, AV.sl Tk.imm kI2 (vev50_0 tk es a b), [])))
 | _, _ => none
noncomputable def k50 : Gam := spG 50 sp50 k113
theorem k50_ok : GamOK Try.prog k50 := spG_ok k113_ok fun T C r outs hs => by
   unfold sp50 at hs
   split at hs
   ·exact okE k113_ok Try.func50 (fun c _ => LoopsOK.none (fun _ _ => rfl) c) (ev50 _ _ _ _) hs
   ·cases hs
noncomputable def rev66_0 (tk : Tk) (es : LL) : Int := (↑(vev86_0 tk es).length : Int)
noncomputable def vev66_0 (tk : Tk) (es : LL) : LL := bif (↑es.length : Int) == 0 then [] else List.take (rev99_0 (vev86_0 tk es) 0).toNat (List.drop 0 (vev99_0 (vev86_0 tk es) 0))
noncomputable def vev66_1 (tk : Tk) (es : LL) : Int := bif (↑es.length : Int) == 0 then 0 else intOf (((vev86_0 tk es).getD (Int.toNat 0) []).getD 0 AV.junk)
noncomputable def vev66_2 (tk : Tk) (es : LL) : Int := bif (↑es.length : Int) == 0 then 0 else intOf (((vev86_0 tk es).getD (Int.toNat 0) []).getD (0 + 1) AV.junk)
noncomputable def vev66_3 (tk : Tk) (es : LL) : Bool := bif (↑es.length : Int) == 0 then false else true
noncomputable def vev66_4 (tk : Tk) (es : LL) : Bool := bif (↑es.length : Int) == 0 then true else bif vev86_1 tk es then bif decide ((0 : Int) ≤ 0) && decide (0 < rev66_0 tk es) then bif vev99_1 (vev86_0 tk es) 0 then true else false else false else false
theorem ev66 (tk : Tk) (es : LL) : eF k50 noLsp 66 Try.f66 [.sl tk kI2 es] [] = bif vev66_4 tk es then some (true, AV.tup [AV.sl Tk.imm kI2 (vev66_0 tk es), AV.agg [iA (vev66_1 tk es), iA (vev66_2 tk es)], AV.bool (vev66_3 tk es)], []) else none := by
 refine Eq.trans (b := bif (↑es.length : Int) == 0 then some (true, AV.tup [AV.sl Tk.imm kI2 [], AV.agg [iA 0, iA 0], AV.bool false], []) else bif vev86_1 tk es then bif decide ((0 : Int) ≤ 0) && decide (0 < rev66_0 tk es) then bif vev99_1 (vev86_0 tk es) 0 then some (true, AV.tup [AV.sl Tk.imm kI2 (List.take (rev99_0 (vev86_0 tk es) 0).toNat (List.drop 0 (vev99_0 (vev86_0 tk es) 0))), AV.agg [iA (intOf (((vev86_0 tk es).getD (Int.toNat 0) []).getD 0 AV.junk)), iA (intOf (((vev86_0 tk es).getD (Int.toNat 0) []).getD (0 + 1) AV.junk))], AV.bool true], []) else none else none else none) (by kernel_rfl) ?_
 unfold vev66_0 vev66_1 vev66_2 vev66_3 vev66_4
 generalize (decide ((0 : Int) ≤ 0) && decide (0 < rev66_0 tk es)) = c0
 generalize ((↑es.length : Int) == 0) = c1
 generalize (vev99_1 _ _) = c2
 generalize (vev86_1 _ _) = c3
 cases c1; cases c3; rfl; cases c0; rfl; cases c2; rfl; rfl; rfl
noncomputable def sp66 : Sp
 | [.sl tk [.int .i64, .int .i64] es], [] => spW (vev66_4 tk es) (some ((true, AV.tup [AV.sl Tk.imm kI2 (vev66_0 tk es), AV.agg [iA (vev66_1 tk es), iA (vev66_2 tk es)], AV.bool (vev66_3 tk es)], [])))
 | _, _ => none
noncomputable def k66 : Gam := spG 66 sp66 k50
theorem k66_ok : GamOK Try.prog k66 := spG_ok k50_ok fun T C r outs hs => by
   unfold sp66 at hs
   split at hs
   ·exact okE k50_ok Try.func66 (fun c _ => LoopsOK.none (fun _ _ => rfl) c) (ev66 _ _) hs
   ·cases hs
noncomputable def vev95_0 (tk : Tk) (es : LL) (id : Int) : LL := bif decide (vev120_0 Tk.lent (vev86_0 tk es) id < 0) then vev86_0 tk es else List.take (rev99_0 (vev86_0 tk es) (vev120_0 Tk.lent (vev86_0 tk es) id)).toNat (List.drop 0 (vev99_0 (vev86_0 tk es) (vev120_0 Tk.lent (vev86_0 tk es) id)))
noncomputable def vev95_1 (tk : Tk) (es : LL) (id : Int) : Bool := bif decide (vev120_0 Tk.lent (vev86_0 tk es) id < 0) then false else true
noncomputable def vev95_2 (tk : Tk) (es : LL) (id : Int) : Bool := bif vev86_1 tk es then bif vev113_0 Tk.lent (vev86_0 tk es) id then bif decide (vev120_0 Tk.lent (vev86_0 tk es) id < 0) then true else bif vev99_1 (vev86_0 tk es) (vev120_0 Tk.lent (vev86_0 tk es) id) then true else false else false else false
theorem ev95 (tk : Tk) (es : LL) (id : Int) : eF k66 noLsp 95 Try.f95 [.sl tk kI2 es, iA id] [] = bif vev95_2 tk es id then some (true, AV.tup [AV.sl Tk.imm kI2 (vev95_0 tk es id), AV.bool (vev95_1 tk es id)], []) else none := by
 refine Eq.trans (b := bif vev86_1 tk es then bif vev113_0 Tk.lent (vev86_0 tk es) id then bif decide (vev120_0 Tk.lent (vev86_0 tk es) id < 0) then some (true, AV.tup [AV.sl Tk.imm kI2 (vev86_0 tk es), AV.bool false], []) else bif vev99_1 (vev86_0 tk es) (vev120_0 Tk.lent (vev86_0 tk es) id) then some (true, AV.tup [AV.sl Tk.imm kI2 (List.take (rev99_0 (vev86_0 tk es) (vev120_0 Tk.lent (vev86_0 tk es) id)).toNat (List.drop 0 (vev99_0 (vev86_0 tk es) (vev120_0 Tk.lent (vev86_0 tk es) id)))), AV.bool true], []) else none else none else none) (by kernel_rfl) ?_
 unfold vev95_0 vev95_1 vev95_2
 generalize (decide (vev120_0 Tk.lent (vev86_0 tk es) id < 0)) = c0
 generalize (vev99_1 _ _) = c1
 generalize (vev113_0 _ _ _) = c2
 generalize (vev86_1 _ _) = c3
 cases c3; rfl; cases c2; rfl; cases c0; cases c1; rfl; rfl; rfl
noncomputable def sp95 : Sp
 | [.sl tk [.int .i64, .int .i64] es, .int .i64 id], [] => spW (vev95_2 tk es id) (some ((true, AV.tup [AV.sl Tk.imm kI2 (vev95_0 tk es id), AV.bool (vev95_1 tk es id)], [])))
 | _, _ => none
noncomputable def k95 : Gam := spG 95 sp95 k66
theorem k95_ok : GamOK Try.prog k95 := spG_ok k66_ok fun T C r outs hs => by
   unfold sp95 at hs
   split at hs
   ·exact okE k66_ok Try.func95 (fun c _ => LoopsOK.none (fun _ _ => rfl) c) (ev95 _ _ _) hs
   ·cases hs
end Go.Proofs.Gv
