import Derived.Test.YthnbpgiohimkoaaPs32
import Derived.Test.YthnbpgiohimkoaaPs35
import Derived.Test.YthnbpgiohimkoaaPs27
import Derived.KernelRfl
import Derived.Test.YthnbpgiohimkoaaPs30
import Derived.Test.YthnbpgiohimkoaaPs31
import Derived.Test.YthnbpgiohimkoaaPs37
import Derived.Test.YthnbpgiohimkoaaPs33
set_option linter.unusedVariables false
namespace Go.Proofs.Gv
open Go.Proofs
noncomputable def vev12_0 (q l : Int) : Int := bif bif decide (q < 1) then true else bif decide (q > 1000) then true else bif decide (l < 1) then true else decide (l > 1000) then 0 else q
noncomputable def vev12_1 (q l : Int) : Int := bif bif decide (q < 1) then true else bif decide (q > 1000) then true else bif decide (l < 1) then true else decide (l > 1000) then 0 else l
noncomputable def vev12_2 (q l : Int) : Int := bif bif decide (q < 1) then true else bif decide (q > 1000) then true else bif decide (l < 1) then true else decide (l > 1000) then 8 else 0
noncomputable def go46_2 (a b c d : Int) (h : Tk) (e : LL) (f g : Int) : Bool := bif decide (b < (↑e.length : Int)) then bif decide (0 ≤ b) && decide (b < (↑e.length : Int)) then bif intOf ((e.getD b.toNat []).getD 0 AV.junk) == a then false else true else false else false
noncomputable def nx46_2_1 (a b c d : Int) (h : Tk) (e : LL) (f g : Int) : Int := IntKind.i64.wrap (b + 1)
noncomputable def xc46_2_0 (a b c d : Int) (h : Tk) (e : LL) (f g : Int) : Bool := bif decide (b < (↑e.length : Int)) then bif decide (0 ≤ b) && decide (b < (↑e.length : Int)) then intOf ((e.getD b.toNat []).getD 0 AV.junk) == a else false else false
noncomputable def xc46_2_1 (a b c d : Int) (h : Tk) (e : LL) (f g : Int) : Bool := bif decide (b < (↑e.length : Int)) then false else true
abbrev pl46_2 : Type := Int × Int × Int × Tk × LL × Int × Int
abbrev sl46_2 : Type := Int
noncomputable def g46_2 (p : pl46_2) (s : sl46_2) : Bool := go46_2 p.1 s p.2.1 p.2.2.1 p.2.2.2.1 p.2.2.2.2.1 p.2.2.2.2.2.1 p.2.2.2.2.2.2
noncomputable def n46_2 (p : pl46_2) (s : sl46_2) : sl46_2 := nx46_2_1 p.1 s p.2.1 p.2.2.1 p.2.2.2.1 p.2.2.2.2.1 p.2.2.2.2.2.1 p.2.2.2.2.2.2
noncomputable def y46_2 (p : pl46_2) (s : sl46_2) : List (Bool × Out) := [(xc46_2_0 p.1 s p.2.1 p.2.2.1 p.2.2.2.1 p.2.2.2.2.1 p.2.2.2.2.2.1 p.2.2.2.2.2.2, (Ex.ret, [iA s], []))]
noncomputable def z46_2 (p : pl46_2) (s : sl46_2) : Bool := xc46_2_1 p.1 s p.2.1 p.2.2.1 p.2.2.2.1 p.2.2.2.2.1 p.2.2.2.2.2.1 p.2.2.2.2.2.2
noncomputable def d46_2 (p : pl46_2) (s : sl46_2) : Out := (Ex.exit 0, [AV.junk], [])
noncomputable def rev46_0 (q lim t k : Int) (tk : Tk) (l : LL) (c : Int) : sl46_2 := finL (g46_2 (c, q, lim, tk, l, t, k)) (n46_2 (c, q, lim, tk, l, t, k)) 0
noncomputable def vev46_0 (q lim t k : Int) (tk : Tk) (l : LL) (c : Int) : sl46_2 := bif xc46_2_0 c (rev46_0 q lim t k tk l c) q lim tk l t k then rev46_0 q lim t k tk l c else (-1)
noncomputable def vev46_1 (q lim t k : Int) (tk : Tk) (l : LL) (c : Int) : Bool := bif (spI g46_2 n46_2 y46_2 z46_2 d46_2 ((c, q, lim, tk, l, t, k), 0)).fst then true else false
noncomputable def rev54_0 (q lim t k : Int) (l : LL) (i fc fw fs ff fk fl : Int) (fe : LL) : LL := [[iA fc, iA fw, iA fs, iA ff, iA fk, iA fl, AV.sl Tk.imm kI4 fe]]
noncomputable def rev54_1 (q lim t k : Int) (l : LL) (i fc fw fs ff fk fl : Int) (fe : LL) : Int := IntKind.i64.wrap (i + 1)
noncomputable def rev54_2 (q lim t k : Int) (l : LL) (i fc fw fs ff fk fl : Int) (fe : LL) : LL := List.take i.toNat l ++ rev54_0 q lim t k l i fc fw fs ff fk fl fe
noncomputable def rev54_3 (q lim t k : Int) (l : LL) (i fc fw fs ff fk fl : Int) (fe : LL) : LL := List.drop (rev54_1 q lim t k l i fc fw fs ff fk fl fe).toNat l
noncomputable def vev54_0 (q lim t k : Int) (l : LL) (i fc fw fs ff fk fl : Int) (fe : LL) : LL := rev54_2 q lim t k l i fc fw fs ff fk fl fe ++ rev54_3 q lim t k l i fc fw fs ff fk fl fe
noncomputable def vev54_1 (q lim t k : Int) (l : LL) (i fc fw fs ff fk fl : Int) (fe : LL) : Bool := bif bnd 0 i (↑l.length : Int) then bif bif decide ((List.take i.toNat l).length * 72 ≤ 140737488355328) then decide ((List.take i.toNat l).length ≤ 9223372036854775807) else false then bif bif decide (((List.take i.toNat l).length + (rev54_0 q lim t k l i fc fw fs ff fk fl fe).length) * 72 ≤ 140737488355328) then decide ((List.take i.toNat l).length + (rev54_0 q lim t k l i fc fw fs ff fk fl fe).length ≤ 9223372036854775807) else false then bif bnd (rev54_1 q lim t k l i fc fw fs ff fk fl fe) (↑l.length : Int) (↑l.length : Int) then bif bif decide (((rev54_2 q lim t k l i fc fw fs ff fk fl fe).length + (rev54_3 q lim t k l i fc fw fs ff fk fl fe).length) * 72 ≤ 140737488355328) then decide ((rev54_2 q lim t k l i fc fw fs ff fk fl fe).length + (rev54_3 q lim t k l i fc fw fs ff fk fl fe).length ≤ 9223372036854775807) else false then true else false else false else false else false else false
noncomputable def rev14_0 (q lim t k : Int) (l : LL) (c n : Int) : sl46_2 := vev46_0 q lim t k Tk.imm l c
noncomputable def rev14_1 (q lim t k : Int) (l : LL) (c n : Int) : LL := [[iA c, iA (vev45_0 n), iA 0, iA 0, iA 0, iA lim, AV.nil]]
noncomputable def vev14_0 (q lim t k : Int) (l : LL) (c n : Int) : LL := bif bif decide (c < 0) then true else bif decide (c > 2147483647) then true else vev45_1 n != 0 then l else bif decide (rev14_0 q lim t k l c n ≥ 0) then l else bif decide ((↑l.length : Int) ≥ 8) then l else l ++ rev14_1 q lim t k l c n
noncomputable def vev14_1 (q lim t k : Int) (l : LL) (c n : Int) : Int := bif bif decide (c < 0) then true else bif decide (c > 2147483647) then true else vev45_1 n != 0 then 8 else bif decide (rev14_0 q lim t k l c n ≥ 0) then 12 else bif decide ((↑l.length : Int) ≥ 8) then 7 else 0
noncomputable def vev14_2 (q lim t k : Int) (l : LL) (c n : Int) : Bool := bif bif decide (c < 0) then true else bif decide (c > 2147483647) then true else vev45_1 n != 0 then true else bif vev46_1 q lim t k Tk.imm l c then bif decide (rev14_0 q lim t k l c n ≥ 0) then true else bif decide ((↑l.length : Int) ≥ 8) then true else bif bif decide (l.length * 72 ≤ 140737488355328) then decide (l.length ≤ 9223372036854775807) else false then bif bif decide ((l.length + (rev14_1 q lim t k l c n).length) * 72 ≤ 140737488355328) then decide (l.length + (rev14_1 q lim t k l c n).length ≤ 9223372036854775807) else false then true else false else false else false
noncomputable def rev28_0 (q lim t k : Int) (l : LL) (c : Int) : sl46_2 := vev46_0 q lim t k Tk.imm l c
noncomputable def rev28_1 (q lim t k : Int) (l : LL) (c : Int) : LL := List.take (Int.toNat (rev28_0 q lim t k l c)) l
noncomputable def rev28_2 (q lim t k : Int) (l : LL) (c : Int) : Int := IntKind.i64.wrap (rev28_0 q lim t k l c + 1)
noncomputable def rev28_3 (q lim t k : Int) (l : LL) (c : Int) : LL := List.drop (rev28_2 q lim t k l c).toNat l
noncomputable def vev28_0 (q lim t k : Int) (l : LL) (c : Int) : LL := bif decide (rev28_0 q lim t k l c < 0) then l else rev28_1 q lim t k l c ++ rev28_3 q lim t k l c
noncomputable def vev28_1 (q lim t k : Int) (l : LL) (c : Int) : Int := bif decide (rev28_0 q lim t k l c < 0) then 6 else 0
noncomputable def vev28_2 (q lim t k : Int) (l : LL) (c : Int) : Bool := bif vev46_1 q lim t k Tk.imm l c then bif decide (rev28_0 q lim t k l c < 0) then true else bif bnd 0 (rev28_0 q lim t k l c) (↑l.length : Int) then bif bif decide ((rev28_1 q lim t k l c).length * 72 ≤ 140737488355328) then decide ((rev28_1 q lim t k l c).length ≤ 9223372036854775807) else false then bif bnd (rev28_2 q lim t k l c) (↑l.length : Int) (↑l.length : Int) then bif bif decide (((rev28_1 q lim t k l c).length + (rev28_3 q lim t k l c).length) * 72 ≤ 140737488355328) then decide ((rev28_1 q lim t k l c).length + (rev28_3 q lim t k l c).length ≤ 9223372036854775807) else false then true else false else false else false else false else false
noncomputable def rn52_3_0 (a b c d : Int) (h : Tk) (e : LL) (f g : Int) : Int := intOf ((e.getD b.toNat []).getD (0 + 1 + 1 + 1 + 1 + 1) AV.junk)
noncomputable def rn52_3_1 (a b c d : Int) (h : Tk) (e : LL) (f g : Int) : LL := elsO ((e.getD b.toNat []).getD (0 + 1 + 1 + 1 + 1 + 1 + 1) AV.junk)
noncomputable def go52_3 (a b c d : Int) (h : Tk) (e : LL) (f g : Int) : Bool := bif decide (b < (↑e.length : Int)) then bif decide (0 ≤ b) && decide (b < (↑e.length : Int)) then vev91_1 (rn52_3_0 a b c d h e f g) Tk.imm (rn52_3_1 a b c d h e f g) else false else false
noncomputable def nx52_3_0 (a b c d : Int) (h : Tk) (e : LL) (f g : Int) : Int := IntKind.i64.wrap (a + vev91_0 (rn52_3_0 a b c d h e f g) Tk.imm (rn52_3_1 a b c d h e f g))
noncomputable def nx52_3_1 (a b c d : Int) (h : Tk) (e : LL) (f g : Int) : Int := IntKind.i64.wrap (b + 1)
noncomputable def xc52_3_0 (a b c d : Int) (h : Tk) (e : LL) (f g : Int) : Bool := bif decide (b < (↑e.length : Int)) then false else true
abbrev pl52_3 : Type := Int × Int × Tk × LL × Int × Int
abbrev sl52_3 : Type := Int × Int
noncomputable def g52_3 (p : pl52_3) (s : sl52_3) : Bool := go52_3 s.1 s.2 p.1 p.2.1 p.2.2.1 p.2.2.2.1 p.2.2.2.2.1 p.2.2.2.2.2
noncomputable def n52_3 (p : pl52_3) (s : sl52_3) : sl52_3 := (nx52_3_0 s.1 s.2 p.1 p.2.1 p.2.2.1 p.2.2.2.1 p.2.2.2.2.1 p.2.2.2.2.2, nx52_3_1 s.1 s.2 p.1 p.2.1 p.2.2.1 p.2.2.2.1 p.2.2.2.2.1 p.2.2.2.2.2)
noncomputable def y52_3 (p : pl52_3) (s : sl52_3) : List (Bool × Out) := []
noncomputable def z52_3 (p : pl52_3) (s : sl52_3) : Bool := xc52_3_0 s.1 s.2 p.1 p.2.1 p.2.2.1 p.2.2.2.1 p.2.2.2.2.1 p.2.2.2.2.2
noncomputable def d52_3 (p : pl52_3) (s : sl52_3) : Out := (Ex.exit 0, [iA s.1], [])
noncomputable def rev52_0 (q lim t k : Int) (tk : Tk) (l : LL) : sl52_3 := finL (g52_3 (q, lim, tk, l, t, k)) (n52_3 (q, lim, tk, l, t, k)) (0, 0)
noncomputable def vev52_0 (q lim t k : Int) (tk : Tk) (l : LL) : Int := (rev52_0 q lim t k tk l).fst
noncomputable def vev52_1 (q lim t k : Int) (tk : Tk) (l : LL) : Bool := bif (spI g52_3 n52_3 y52_3 z52_3 d52_3 ((q, lim, tk, l, t, k), 0, 0)).fst then true else false
noncomputable def rev16_0 (q lim t k : Int) (l : LL) (c i n z : Int) : sl46_2 := vev46_0 q lim t k Tk.imm l c
noncomputable def rev16_1 (q lim t k : Int) (l : LL) (c i n z : Int) : Int := intOf ((l.getD (Int.toNat (rev16_0 q lim t k l c i n z)) []).getD (0 + 1 + 1 + 1 + 1 + 1) AV.junk)
noncomputable def rev16_2 (q lim t k : Int) (l : LL) (c i n z : Int) : LL := elsO ((l.getD (Int.toNat (rev16_0 q lim t k l c i n z)) []).getD (0 + 1 + 1 + 1 + 1 + 1 + 1) AV.junk)
noncomputable def rev16_3 (q lim t k : Int) (l : LL) (c i n z : Int) : Int := vev51_1 (rev16_1 q lim t k l c i n z) (rev16_2 q lim t k l c i n z) i n z
noncomputable def rev16_4 (q lim t k : Int) (l : LL) (c i n z : Int) : Int := IntKind.i64.wrap (IntKind.i64.wrap (1099511627776 - k) - vev52_0 q lim t k Tk.imm l)
noncomputable def rev16_5 (q lim t k : Int) (l : LL) (c i n z : Int) : Int := intOf ((l.getD (Int.toNat (rev16_0 q lim t k l c i n z)) []).getD 0 AV.junk)
noncomputable def rev16_6 (q lim t k : Int) (l : LL) (c i n z : Int) : Int := intOf ((l.getD (Int.toNat (rev16_0 q lim t k l c i n z)) []).getD (0 + 1) AV.junk)
noncomputable def rev16_7 (q lim t k : Int) (l : LL) (c i n z : Int) : Int := intOf ((l.getD (Int.toNat (rev16_0 q lim t k l c i n z)) []).getD (0 + 1 + 1) AV.junk)
noncomputable def rev16_8 (q lim t k : Int) (l : LL) (c i n z : Int) : Int := intOf ((l.getD (Int.toNat (rev16_0 q lim t k l c i n z)) []).getD (0 + 1 + 1 + 1) AV.junk)
noncomputable def rev16_9 (q lim t k : Int) (l : LL) (c i n z : Int) : Int := intOf ((l.getD (Int.toNat (rev16_0 q lim t k l c i n z)) []).getD (0 + 1 + 1 + 1 + 1) AV.junk)
noncomputable def rev16_10 (q lim t k : Int) (l : LL) (c i n z : Int) : Int := vev53_0 t (rev16_6 q lim t k l c i n z) (rev16_7 q lim t k l c i n z) (rev16_8 q lim t k l c i n z) (rev16_9 q lim t k l c i n z)
noncomputable def rev16_11 (q lim t k : Int) (l : LL) (c i n z : Int) : LL := vev51_0 (rev16_1 q lim t k l c i n z) (rev16_2 q lim t k l c i n z) i n z
noncomputable def vev16_0 (q lim t k : Int) (l : LL) (c i n z : Int) : LL := bif decide (rev16_0 q lim t k l c i n z < 0) then l else bif rev16_3 q lim t k l c i n z != 0 then l else bif decide (z > rev16_4 q lim t k l c i n z) then l else bif (↑(rev16_2 q lim t k l c i n z).length : Int) == 0 then vev54_0 q lim t k l (rev16_0 q lim t k l c i n z) (rev16_5 q lim t k l c i n z) (rev16_6 q lim t k l c i n z) (rev16_10 q lim t k l c i n z) (rev16_8 q lim t k l c i n z) (rev16_9 q lim t k l c i n z) (rev16_1 q lim t k l c i n z) (rev16_11 q lim t k l c i n z) else vev54_0 q lim t k l (rev16_0 q lim t k l c i n z) (rev16_5 q lim t k l c i n z) (rev16_6 q lim t k l c i n z) (rev16_7 q lim t k l c i n z) (rev16_8 q lim t k l c i n z) (rev16_9 q lim t k l c i n z) (rev16_1 q lim t k l c i n z) (rev16_11 q lim t k l c i n z)
noncomputable def vev16_1 (q lim t k : Int) (l : LL) (c i n z : Int) : Int := bif decide (rev16_0 q lim t k l c i n z < 0) then 6 else bif rev16_3 q lim t k l c i n z != 0 then rev16_3 q lim t k l c i n z else bif decide (z > rev16_4 q lim t k l c i n z) then 7 else 0
noncomputable def vev16_2 (q lim t k : Int) (l : LL) (c i n z : Int) : Bool := bif vev46_1 q lim t k Tk.imm l c then bif decide (rev16_0 q lim t k l c i n z < 0) then true else bif decide (0 ≤ rev16_0 q lim t k l c i n z) && decide (rev16_0 q lim t k l c i n z < (↑l.length : Int)) then bif vev51_2 (rev16_1 q lim t k l c i n z) (rev16_2 q lim t k l c i n z) i n z then bif rev16_3 q lim t k l c i n z != 0 then true else bif vev52_1 q lim t k Tk.imm l then bif decide (z > rev16_4 q lim t k l c i n z) then true else bif (↑(rev16_2 q lim t k l c i n z).length : Int) == 0 then bif vev54_1 q lim t k l (rev16_0 q lim t k l c i n z) (rev16_5 q lim t k l c i n z) (rev16_6 q lim t k l c i n z) (rev16_10 q lim t k l c i n z) (rev16_8 q lim t k l c i n z) (rev16_9 q lim t k l c i n z) (rev16_1 q lim t k l c i n z) (rev16_11 q lim t k l c i n z) then true else false else bif vev54_1 q lim t k l (rev16_0 q lim t k l c i n z) (rev16_5 q lim t k l c i n z) (rev16_6 q lim t k l c i n z) (rev16_7 q lim t k l c i n z) (rev16_8 q lim t k l c i n z) (rev16_9 q lim t k l c i n z) (rev16_1 q lim t k l c i n z) (rev16_11 q lim t k l c i n z) then true else false else false else false else false else false
noncomputable def rev30_0 (q lim t k : Int) (l : LL) (c i : Int) : sl46_2 := vev46_0 q lim t k Tk.imm l c
noncomputable def rev30_1 (q lim t k : Int) (l : LL) (c i : Int) : Int := intOf ((l.getD (Int.toNat (rev30_0 q lim t k l c i)) []).getD (0 + 1 + 1 + 1 + 1 + 1) AV.junk)
noncomputable def rev30_2 (q lim t k : Int) (l : LL) (c i : Int) : LL := elsO ((l.getD (Int.toNat (rev30_0 q lim t k l c i)) []).getD (0 + 1 + 1 + 1 + 1 + 1 + 1) AV.junk)
noncomputable def rev30_3 (q lim t k : Int) (l : LL) (c i : Int) : Int := intOf ((l.getD (Int.toNat (rev30_0 q lim t k l c i)) []).getD 0 AV.junk)
noncomputable def rev30_4 (q lim t k : Int) (l : LL) (c i : Int) : Int := intOf ((l.getD (Int.toNat (rev30_0 q lim t k l c i)) []).getD (0 + 1) AV.junk)
noncomputable def rev30_5 (q lim t k : Int) (l : LL) (c i : Int) : Int := intOf ((l.getD (Int.toNat (rev30_0 q lim t k l c i)) []).getD (0 + 1 + 1) AV.junk)
noncomputable def rev30_6 (q lim t k : Int) (l : LL) (c i : Int) : Int := intOf ((l.getD (Int.toNat (rev30_0 q lim t k l c i)) []).getD (0 + 1 + 1 + 1) AV.junk)
noncomputable def rev30_7 (q lim t k : Int) (l : LL) (c i : Int) : Int := intOf ((l.getD (Int.toNat (rev30_0 q lim t k l c i)) []).getD (0 + 1 + 1 + 1 + 1) AV.junk)
noncomputable def rev30_8 (q lim t k : Int) (l : LL) (c i : Int) : LL := vev65_0 (rev30_1 q lim t k l c i) (rev30_2 q lim t k l c i) i
noncomputable def vev30_0 (q lim t k : Int) (l : LL) (c i : Int) : LL := bif decide (rev30_0 q lim t k l c i < 0) then l else bif !vev65_1 (rev30_1 q lim t k l c i) (rev30_2 q lim t k l c i) i then l else vev54_0 q lim t k l (rev30_0 q lim t k l c i) (rev30_3 q lim t k l c i) (rev30_4 q lim t k l c i) (rev30_5 q lim t k l c i) (rev30_6 q lim t k l c i) (rev30_7 q lim t k l c i) (rev30_1 q lim t k l c i) (rev30_8 q lim t k l c i)
noncomputable def vev30_1 (q lim t k : Int) (l : LL) (c i : Int) : Int := bif decide (rev30_0 q lim t k l c i < 0) then 6 else bif !vev65_1 (rev30_1 q lim t k l c i) (rev30_2 q lim t k l c i) i then 6 else 0
noncomputable def vev30_2 (q lim t k : Int) (l : LL) (c i : Int) : Bool := bif vev46_1 q lim t k Tk.imm l c then bif decide (rev30_0 q lim t k l c i < 0) then true else bif decide (0 ≤ rev30_0 q lim t k l c i) && decide (rev30_0 q lim t k l c i < (↑l.length : Int)) then bif vev65_2 (rev30_1 q lim t k l c i) (rev30_2 q lim t k l c i) i then bif !vev65_1 (rev30_1 q lim t k l c i) (rev30_2 q lim t k l c i) i then true else bif vev54_1 q lim t k l (rev30_0 q lim t k l c i) (rev30_3 q lim t k l c i) (rev30_4 q lim t k l c i) (rev30_5 q lim t k l c i) (rev30_6 q lim t k l c i) (rev30_7 q lim t k l c i) (rev30_1 q lim t k l c i) (rev30_8 q lim t k l c i) then true else false else false else false else false
noncomputable def rn69_3_0 (a b c d : Int) (h : Tk) (e : LL) (f g : Int) : Int := intOf ((e.getD b.toNat []).getD (0 + 1 + 1) AV.junk)
noncomputable def rn69_3_1 (a b c d : Int) (h : Tk) (e : LL) (f g : Int) : Int := intOf ((e.getD a.toNat []).getD (0 + 1 + 1) AV.junk)
noncomputable def rn69_3_2 (a b c d : Int) (h : Tk) (e : LL) (f g : Int) : Int := intOf ((e.getD b.toNat []).getD 0 AV.junk)
noncomputable def rn69_3_3 (a b c d : Int) (h : Tk) (e : LL) (f g : Int) : Int := intOf ((e.getD a.toNat []).getD 0 AV.junk)
noncomputable def go69_3 (a b c d : Int) (h : Tk) (e : LL) (f g : Int) : Bool := bif decide (b < (↑e.length : Int)) then bif decide (0 ≤ b) && decide (b < (↑e.length : Int)) then bif (↑(elsO ((e.getD b.toNat []).getD (0 + 1 + 1 + 1 + 1 + 1 + 1) AV.junk)).length : Int) == 0 then true else bif decide (a < 0) then true else bif decide (0 ≤ b) && decide (b < (↑e.length : Int)) then bif decide (0 ≤ a) && decide (a < (↑e.length : Int)) then bif decide (rn69_3_0 a b c d h e f g < rn69_3_1 a b c d h e f g) then true else bif decide (0 ≤ b) && decide (b < (↑e.length : Int)) then bif decide (0 ≤ a) && decide (a < (↑e.length : Int)) then bif rn69_3_0 a b c d h e f g == rn69_3_1 a b c d h e f g then bif decide (0 ≤ b) && decide (b < (↑e.length : Int)) then decide (0 ≤ a) && decide (a < (↑e.length : Int)) else false else true else false else false else false else false else false else false
noncomputable def nx69_3_0 (a b c d : Int) (h : Tk) (e : LL) (f g : Int) : Int := bif (↑(elsO ((e.getD b.toNat []).getD (0 + 1 + 1 + 1 + 1 + 1 + 1) AV.junk)).length : Int) == 0 then a else bif bif decide (a < 0) then true else bif decide (0 ≤ b) && decide (b < (↑e.length : Int)) then bif decide (0 ≤ a) && decide (a < (↑e.length : Int)) then bif decide (rn69_3_0 a b c d h e f g < rn69_3_1 a b c d h e f g) then true else bif decide (0 ≤ b) && decide (b < (↑e.length : Int)) then bif decide (0 ≤ a) && decide (a < (↑e.length : Int)) then bif rn69_3_0 a b c d h e f g == rn69_3_1 a b c d h e f g then bif decide (0 ≤ b) && decide (b < (↑e.length : Int)) then bif decide (0 ≤ a) && decide (a < (↑e.length : Int)) then decide (rn69_3_2 a b c d h e f g < rn69_3_3 a b c d h e f g) else false else false else false else false else false else false else false then b else a
noncomputable def nx69_3_1 (a b c d : Int) (h : Tk) (e : LL) (f g : Int) : Int := IntKind.i64.wrap (b + 1)
noncomputable def xc69_3_0 (a b c d : Int) (h : Tk) (e : LL) (f g : Int) : Bool := bif decide (b < (↑e.length : Int)) then false else true
abbrev pl69_3 : Type := Int × Int × Tk × LL × Int × Int
abbrev sl69_3 : Type := Int × Int
noncomputable def g69_3 (p : pl69_3) (s : sl69_3) : Bool := go69_3 s.1 s.2 p.1 p.2.1 p.2.2.1 p.2.2.2.1 p.2.2.2.2.1 p.2.2.2.2.2
noncomputable def n69_3 (p : pl69_3) (s : sl69_3) : sl69_3 := (nx69_3_0 s.1 s.2 p.1 p.2.1 p.2.2.1 p.2.2.2.1 p.2.2.2.2.1 p.2.2.2.2.2, nx69_3_1 s.1 s.2 p.1 p.2.1 p.2.2.1 p.2.2.2.1 p.2.2.2.2.1 p.2.2.2.2.2)
noncomputable def y69_3 (p : pl69_3) (s : sl69_3) : List (Bool × Out) := []
noncomputable def z69_3 (p : pl69_3) (s : sl69_3) : Bool := xc69_3_0 s.1 s.2 p.1 p.2.1 p.2.2.1 p.2.2.2.1 p.2.2.2.2.1 p.2.2.2.2.2
noncomputable def d69_3 (p : pl69_3) (s : sl69_3) : Out := (Ex.exit 0, [iA s.1], [])
noncomputable def rev69_0 (q lim t k : Int) (tk : Tk) (l : LL) : sl69_3 := finL (g69_3 (q, lim, tk, l, t, k)) (n69_3 (q, lim, tk, l, t, k)) ((-1), 0)
noncomputable def vev69_0 (q lim t k : Int) (tk : Tk) (l : LL) : Int := (rev69_0 q lim t k tk l).fst
noncomputable def vev69_1 (q lim t k : Int) (tk : Tk) (l : LL) : Bool := bif (spI g69_3 n69_3 y69_3 z69_3 d69_3 ((q, lim, tk, l, t, k), (-1), 0)).fst then true else false
noncomputable def rev32_0 (q lim t k : Int) (l : LL) : Int := intOf ((l.getD (vev69_0 q lim t k Tk.imm l).toNat []).getD (0 + 1 + 1 + 1 + 1 + 1) AV.junk)
noncomputable def rev32_1 (q lim t k : Int) (l : LL) : LL := elsO ((l.getD (vev69_0 q lim t k Tk.imm l).toNat []).getD (0 + 1 + 1 + 1 + 1 + 1 + 1) AV.junk)
noncomputable def rev32_2 (q lim t k : Int) (l : LL) : Int := intOf ((l.getD (vev69_0 q lim t k Tk.imm l).toNat []).getD (0 + 1) AV.junk)
noncomputable def rev32_3 (q lim t k : Int) (l : LL) : Int := intOf ((l.getD (vev69_0 q lim t k Tk.imm l).toNat []).getD (0 + 1 + 1) AV.junk)
noncomputable def rev32_4 (q lim t k : Int) (l : LL) : Int := intOf ((l.getD (vev69_0 q lim t k Tk.imm l).toNat []).getD (0 + 1 + 1 + 1) AV.junk)
noncomputable def rev32_5 (q lim t k : Int) (l : LL) : Int := intOf ((l.getD (vev69_0 q lim t k Tk.imm l).toNat []).getD (0 + 1 + 1 + 1 + 1) AV.junk)
noncomputable def rev32_6 (q lim t k : Int) (l : LL) : Int := vev70_5 (rev32_0 q lim t k l) (rev32_1 q lim t k l) q
noncomputable def rev32_7 (q lim t k : Int) (l : LL) : Int := vev71_0 t (rev32_2 q lim t k l) (rev32_3 q lim t k l) (rev32_4 q lim t k l) (rev32_5 q lim t k l) (rev32_6 q lim t k l)
noncomputable def rev32_8 (q lim t k : Int) (l : LL) : Int := IntKind.i64.wrap (k + rev32_6 q lim t k l)
noncomputable def rev32_9 (q lim t k : Int) (l : LL) : Int := intOf ((l.getD (vev69_0 q lim t k Tk.imm l).toNat []).getD 0 AV.junk)
noncomputable def rev32_10 (q lim t k : Int) (l : LL) : Int := vev71_1 t (rev32_2 q lim t k l) (rev32_3 q lim t k l) (rev32_4 q lim t k l) (rev32_5 q lim t k l) (rev32_6 q lim t k l)
noncomputable def rev32_11 (q lim t k : Int) (l : LL) : Int := vev71_2 t (rev32_2 q lim t k l) (rev32_3 q lim t k l) (rev32_4 q lim t k l) (rev32_5 q lim t k l) (rev32_6 q lim t k l)
noncomputable def rev32_12 (q lim t k : Int) (l : LL) : Int := vev71_3 t (rev32_2 q lim t k l) (rev32_3 q lim t k l) (rev32_4 q lim t k l) (rev32_5 q lim t k l) (rev32_6 q lim t k l)
noncomputable def rev32_13 (q lim t k : Int) (l : LL) : LL := vev70_0 (rev32_0 q lim t k l) (rev32_1 q lim t k l) q
noncomputable def vev32_0 (q lim t k : Int) (l : LL) : LL := bif decide (vev69_0 q lim t k Tk.imm l < 0) then l else vev54_0 q lim (rev32_7 q lim t k l) (rev32_8 q lim t k l) l (vev69_0 q lim t k Tk.imm l) (rev32_9 q lim t k l) (rev32_2 q lim t k l) (rev32_10 q lim t k l) (rev32_11 q lim t k l) (rev32_12 q lim t k l) (rev32_0 q lim t k l) (rev32_13 q lim t k l)
noncomputable def vev32_1 (q lim t k : Int) (l : LL) : Int := bif decide (vev69_0 q lim t k Tk.imm l < 0) then t else rev32_7 q lim t k l
noncomputable def vev32_2 (q lim t k : Int) (l : LL) : Int := bif decide (vev69_0 q lim t k Tk.imm l < 0) then k else rev32_8 q lim t k l
noncomputable def vev32_3 (q lim t k : Int) (l : LL) : Int := bif decide (vev69_0 q lim t k Tk.imm l < 0) then 0 else rev32_9 q lim t k l
noncomputable def vev32_4 (q lim t k : Int) (l : LL) : Int := bif decide (vev69_0 q lim t k Tk.imm l < 0) then 0 else vev70_1 (rev32_0 q lim t k l) (rev32_1 q lim t k l) q
noncomputable def vev32_5 (q lim t k : Int) (l : LL) : Int := bif decide (vev69_0 q lim t k Tk.imm l < 0) then 0 else rev32_6 q lim t k l
noncomputable def vev32_6 (q lim t k : Int) (l : LL) : Int := bif decide (vev69_0 q lim t k Tk.imm l < 0) then 0 else vev70_3 (rev32_0 q lim t k l) (rev32_1 q lim t k l) q
noncomputable def vev32_7 (q lim t k : Int) (l : LL) : Bool := bif decide (vev69_0 q lim t k Tk.imm l < 0) then false else true
noncomputable def vev32_8 (q lim t k : Int) (l : LL) : Bool := bif vev69_1 q lim t k Tk.imm l then bif decide (vev69_0 q lim t k Tk.imm l < 0) then true else bif decide (0 ≤ vev69_0 q lim t k Tk.imm l) && decide (vev69_0 q lim t k Tk.imm l < (↑l.length : Int)) then bif vev70_6 (rev32_0 q lim t k l) (rev32_1 q lim t k l) q then bif vev71_5 t (rev32_2 q lim t k l) (rev32_3 q lim t k l) (rev32_4 q lim t k l) (rev32_5 q lim t k l) (rev32_6 q lim t k l) then bif vev54_1 q lim (rev32_7 q lim t k l) (rev32_8 q lim t k l) l (vev69_0 q lim t k Tk.imm l) (rev32_9 q lim t k l) (rev32_2 q lim t k l) (rev32_10 q lim t k l) (rev32_11 q lim t k l) (rev32_12 q lim t k l) (rev32_0 q lim t k l) (rev32_13 q lim t k l) then true else false else false else false else false else false
noncomputable def rn72_4_0 (d : Tk) (a : LL) (e : Tk) (b : LL) (c : Int) : Int := intOf ((a.getD c.toNat []).getD (0 + 1 + 1 + 1 + 1 + 1) AV.junk)
noncomputable def rn72_4_1 (d : Tk) (a : LL) (e : Tk) (b : LL) (c : Int) : LL := elsO ((a.getD c.toNat []).getD (0 + 1 + 1 + 1 + 1 + 1 + 1) AV.junk)
noncomputable def rn72_4_2 (d : Tk) (a : LL) (e : Tk) (b : LL) (c : Int) : Int := intOf ((b.getD c.toNat []).getD (0 + 1 + 1 + 1 + 1 + 1) AV.junk)
noncomputable def rn72_4_3 (d : Tk) (a : LL) (e : Tk) (b : LL) (c : Int) : LL := elsO ((b.getD c.toNat []).getD (0 + 1 + 1 + 1 + 1 + 1 + 1) AV.junk)
noncomputable def go72_4 (d : Tk) (a : LL) (e : Tk) (b : LL) (c : Int) : Bool := bif decide (c < (↑a.length : Int)) then bif bif decide (0 ≤ c) && decide (c < (↑a.length : Int)) then bif decide (0 ≤ c) && decide (c < (↑b.length : Int)) then bif intOf ((a.getD c.toNat []).getD 0 AV.junk) != intOf ((b.getD c.toNat []).getD 0 AV.junk) then true else bif decide (0 ≤ c) && decide (c < (↑a.length : Int)) then bif decide (0 ≤ c) && decide (c < (↑b.length : Int)) then bif !(intOf ((a.getD c.toNat []).getD (0 + 1) AV.junk) == intOf ((b.getD c.toNat []).getD (0 + 1) AV.junk) && (intOf ((a.getD c.toNat []).getD (0 + 1 + 1) AV.junk) == intOf ((b.getD c.toNat []).getD (0 + 1 + 1) AV.junk) && (intOf ((a.getD c.toNat []).getD (0 + 1 + 1 + 1) AV.junk) == intOf ((b.getD c.toNat []).getD (0 + 1 + 1 + 1) AV.junk) && (intOf ((a.getD c.toNat []).getD (0 + 1 + 1 + 1 + 1) AV.junk) == intOf ((b.getD c.toNat []).getD (0 + 1 + 1 + 1 + 1) AV.junk) && true)))) then true else bif decide (0 ≤ c) && decide (c < (↑a.length : Int)) then bif decide (0 ≤ c) && decide (c < (↑b.length : Int)) then vev104_1 (rn72_4_0 d a e b c) Tk.imm (rn72_4_1 d a e b c) (rn72_4_2 d a e b c) Tk.imm (rn72_4_3 d a e b c) else false else false else false else false else false else false then bif bif decide (0 ≤ c) && decide (c < (↑a.length : Int)) then bif decide (0 ≤ c) && decide (c < (↑b.length : Int)) then bif intOf ((a.getD c.toNat []).getD 0 AV.junk) != intOf ((b.getD c.toNat []).getD 0 AV.junk) then true else bif decide (0 ≤ c) && decide (c < (↑a.length : Int)) then bif decide (0 ≤ c) && decide (c < (↑b.length : Int)) then bif !(intOf ((a.getD c.toNat []).getD (0 + 1) AV.junk) == intOf ((b.getD c.toNat []).getD (0 + 1) AV.junk) && (intOf ((a.getD c.toNat []).getD (0 + 1 + 1) AV.junk) == intOf ((b.getD c.toNat []).getD (0 + 1 + 1) AV.junk) && (intOf ((a.getD c.toNat []).getD (0 + 1 + 1 + 1) AV.junk) == intOf ((b.getD c.toNat []).getD (0 + 1 + 1 + 1) AV.junk) && (intOf ((a.getD c.toNat []).getD (0 + 1 + 1 + 1 + 1) AV.junk) == intOf ((b.getD c.toNat []).getD (0 + 1 + 1 + 1 + 1) AV.junk) && true)))) then true else bif decide (0 ≤ c) && decide (c < (↑a.length : Int)) then bif decide (0 ≤ c) && decide (c < (↑b.length : Int)) then bif vev104_1 (rn72_4_0 d a e b c) Tk.imm (rn72_4_1 d a e b c) (rn72_4_2 d a e b c) Tk.imm (rn72_4_3 d a e b c) then !vev104_0 (rn72_4_0 d a e b c) Tk.imm (rn72_4_1 d a e b c) (rn72_4_2 d a e b c) Tk.imm (rn72_4_3 d a e b c) else false else false else false else false else false else false else false then false else true else false else false
noncomputable def nx72_4_4 (d : Tk) (a : LL) (e : Tk) (b : LL) (c : Int) : Int := IntKind.i64.wrap (c + 1)
noncomputable def xc72_4_0 (d : Tk) (a : LL) (e : Tk) (b : LL) (c : Int) : Bool := bif decide (c < (↑a.length : Int)) then bif bif decide (0 ≤ c) && decide (c < (↑a.length : Int)) then bif decide (0 ≤ c) && decide (c < (↑b.length : Int)) then bif intOf ((a.getD c.toNat []).getD 0 AV.junk) != intOf ((b.getD c.toNat []).getD 0 AV.junk) then true else bif decide (0 ≤ c) && decide (c < (↑a.length : Int)) then bif decide (0 ≤ c) && decide (c < (↑b.length : Int)) then bif !(intOf ((a.getD c.toNat []).getD (0 + 1) AV.junk) == intOf ((b.getD c.toNat []).getD (0 + 1) AV.junk) && (intOf ((a.getD c.toNat []).getD (0 + 1 + 1) AV.junk) == intOf ((b.getD c.toNat []).getD (0 + 1 + 1) AV.junk) && (intOf ((a.getD c.toNat []).getD (0 + 1 + 1 + 1) AV.junk) == intOf ((b.getD c.toNat []).getD (0 + 1 + 1 + 1) AV.junk) && (intOf ((a.getD c.toNat []).getD (0 + 1 + 1 + 1 + 1) AV.junk) == intOf ((b.getD c.toNat []).getD (0 + 1 + 1 + 1 + 1) AV.junk) && true)))) then true else bif decide (0 ≤ c) && decide (c < (↑a.length : Int)) then bif decide (0 ≤ c) && decide (c < (↑b.length : Int)) then vev104_1 (rn72_4_0 d a e b c) Tk.imm (rn72_4_1 d a e b c) (rn72_4_2 d a e b c) Tk.imm (rn72_4_3 d a e b c) else false else false else false else false else false else false then bif decide (0 ≤ c) && decide (c < (↑a.length : Int)) then bif decide (0 ≤ c) && decide (c < (↑b.length : Int)) then bif intOf ((a.getD c.toNat []).getD 0 AV.junk) != intOf ((b.getD c.toNat []).getD 0 AV.junk) then true else bif decide (0 ≤ c) && decide (c < (↑a.length : Int)) then bif decide (0 ≤ c) && decide (c < (↑b.length : Int)) then bif !(intOf ((a.getD c.toNat []).getD (0 + 1) AV.junk) == intOf ((b.getD c.toNat []).getD (0 + 1) AV.junk) && (intOf ((a.getD c.toNat []).getD (0 + 1 + 1) AV.junk) == intOf ((b.getD c.toNat []).getD (0 + 1 + 1) AV.junk) && (intOf ((a.getD c.toNat []).getD (0 + 1 + 1 + 1) AV.junk) == intOf ((b.getD c.toNat []).getD (0 + 1 + 1 + 1) AV.junk) && (intOf ((a.getD c.toNat []).getD (0 + 1 + 1 + 1 + 1) AV.junk) == intOf ((b.getD c.toNat []).getD (0 + 1 + 1 + 1 + 1) AV.junk) && true)))) then true else bif decide (0 ≤ c) && decide (c < (↑a.length : Int)) then bif decide (0 ≤ c) && decide (c < (↑b.length : Int)) then bif vev104_1 (rn72_4_0 d a e b c) Tk.imm (rn72_4_1 d a e b c) (rn72_4_2 d a e b c) Tk.imm (rn72_4_3 d a e b c) then !vev104_0 (rn72_4_0 d a e b c) Tk.imm (rn72_4_1 d a e b c) (rn72_4_2 d a e b c) Tk.imm (rn72_4_3 d a e b c) else false else false else false else false else false else false else false else false else false
noncomputable def xc72_4_1 (d : Tk) (a : LL) (e : Tk) (b : LL) (c : Int) : Bool := bif decide (c < (↑a.length : Int)) then false else true
abbrev pl72_4 : Type := Tk × LL × Tk × LL
abbrev sl72_4 : Type := Int
noncomputable def g72_4 (p : pl72_4) (s : sl72_4) : Bool := go72_4 p.1 p.2.1 p.2.2.1 p.2.2.2 s
noncomputable def n72_4 (p : pl72_4) (s : sl72_4) : sl72_4 := nx72_4_4 p.1 p.2.1 p.2.2.1 p.2.2.2 s
noncomputable def y72_4 (p : pl72_4) (s : sl72_4) : List (Bool × Out) := [(xc72_4_0 p.1 p.2.1 p.2.2.1 p.2.2.2 s, (Ex.ret, [AV.bool false], []))]
noncomputable def z72_4 (p : pl72_4) (s : sl72_4) : Bool := xc72_4_1 p.1 p.2.1 p.2.2.1 p.2.2.2 s
noncomputable def d72_4 (p : pl72_4) (s : sl72_4) : Out := (Ex.exit 0, [AV.junk], [])
noncomputable def rev72_0 (tk : Tk) (a : LL) (tk2 : Tk) (b : LL) : sl72_4 := finL (g72_4 (tk, a, tk2, b)) (n72_4 (tk, a, tk2, b)) 0
noncomputable def vev72_0 (tk : Tk) (a : LL) (tk2 : Tk) (b : LL) : Bool := bif (↑a.length : Int) != (↑b.length : Int) then false else bif xc72_4_0 tk a tk2 b (rev72_0 tk a tk2 b) then false else true
noncomputable def vev72_1 (tk : Tk) (a : LL) (tk2 : Tk) (b : LL) : Bool := bif (↑a.length : Int) != (↑b.length : Int) then true else bif (spI g72_4 n72_4 y72_4 z72_4 d72_4 ((tk, a, tk2, b), 0)).fst then true else false
end Go.Proofs.Gv
namespace Go.Proofs.Gv
open Go.Proofs
theorem ev11 (q : Int) (l : Int) : evFun (cfg Try.prog tab 100000 (gk k31 30) noLsp 11 ([] : List Blk).length Try.f11.ntmps) Try.f11 [.int .i64 q, .int .i64 l] [] = bif bif !vev42_0 q (1 : Int) (1000 : Int) then true else true then bif bif !vev42_0 q (1 : Int) (1000 : Int) then true else bif false then true else !vev42_0 l (1 : Int) (1000 : Int) then some (AV.tup [AV.nilp, AV.int IntKind.i64 (8 : Int)], []) else some (AV.tup [AV.hp (nat_lit 0) (nat_lit 0), AV.int IntKind.i64 (0 : Int)], [Blk.var [AV.int IntKind.i64 q, AV.int IntKind.i64 l, AV.nil, AV.mp (nat_lit 1) [Kd.int IntKind.i64, Kd.int IntKind.i64, Kd.int IntKind.i64, Kd.int IntKind.i64, Kd.int IntKind.i64, Kd.int IntKind.i64, Kd.sl [Kd.int IntKind.i64, Kd.int IntKind.i64, Kd.int IntKind.i64, Kd.int IntKind.i64]], AV.nil, AV.int IntKind.i64 (0 : Int), AV.int IntKind.i64 (0 : Int)], Blk.tbl [Kd.int IntKind.i64, Kd.int IntKind.i64, Kd.int IntKind.i64, Kd.int IntKind.i64, Kd.int IntKind.i64, Kd.int IntKind.i64, Kd.sl [Kd.int IntKind.i64, Kd.int IntKind.i64, Kd.int IntKind.i64, Kd.int IntKind.i64]] [] none]) else none := by kernel_rfl
end Go.Proofs.Gv
namespace Go.Proofs.Gv
open Go.Proofs
def okN (q l : Int) : Bool := decide (1 ≤ q) && (decide (q ≤ 1000) && (decide (1 ≤ l) && decide (l ≤ 1000)))
theorem okN_iff {q l : Int} : okN q l = true ↔ (1 ≤ q ∧ q ≤ 1000) ∧ (1 ≤ l ∧ l ≤ 1000) := by
 simp [okN, and_assoc]
abbrev kdFl : List Kd := [.int .i64, .int .i64, .int .i64, .int .i64, .int .i64, .int .i64, .sl [.int .i64, .int .i64, .int .i64, .int .i64]]
theorem in_fair (n : Int) : vev42_0 n 1 1000 = (decide (1 ≤ n) && decide (n ≤ 1000)) := by
 unfold vev42_0
 cases decide (1 ≤ n) <;> rfl
theorem new11 (q l : Int) : Enters Try.prog 11 ∧ (okN q l = false → FnOK Try.prog 11 [.int .i64 q, .int .i64 l] [] (.tup [.nilp, .int .i64 8]) []) ∧
  (okN q l = true → FnOK Try.prog 11 [.int .i64 q, .int .i64 l] [] (.tup [.hp 0 0, .int .i64 0]) [.var [.int .i64 q, .int .i64 l, .nil, .mp 1 kdFl, .nil, .int .i64 0, .int .i64 0], .tbl kdFl [] none]) := by
 have he := ev11 q l
 have key : ∀ {r : AV} {outs : List Blk}, evFun (cfg Try.prog tab 100000 (gk k31 30) noLsp 11 ([] : List Blk).length Try.f11.ntmps) Try.f11 [.int .i64 q, .int .i64 l] [] = some (r, outs) → Enters Try.prog 11 ∧ FnOK Try.prog 11 [.int .i64 q, .int .i64 l] [] r outs :=
  fun h => fn_ok mixed plain (gk_ok k31_ok 30) Try.func11 (fun c _ => LoopsOK.none (fun _ _ => rfl) c) h
 rw [in_fair, in_fair] at he
 unfold okN
 generalize decide (1 ≤ q) = a at *
 generalize decide (q ≤ 1000) = b at *
 generalize decide (1 ≤ l) = c at *
 generalize decide (l ≤ 1000) = d at *
 cases a <;> cases b <;> cases c <;> cases d <;> simp only [Bool.and_true, Bool.and_false, Bool.true_and, Bool.false_and, Bool.not_true, Bool.not_false, cond_true, cond_false] at he <;>
  (refine ⟨(key he).1, fun h => ?_, fun h => ?_⟩ <;> first | exact (key he).2 | exact absurd h (by decide))
noncomputable def sp11B : List AV → List Blk → Option (Bool × AV × List Blk)
 | [.int .i64 q, .int .i64 l], [] => some (okN q l, .tup [.hp 0 0, .int .i64 0], [.var [.int .i64 q, .int .i64 l, .nil, .mp 1 kdFl, .nil, .int .i64 0, .int .i64 0], .tbl kdFl [] none])
 | _, _ => none
noncomputable def kB : Gam := spG 11 sp11B k31
theorem kB_ok : GamOK Try.prog kB := by
 refine spG_ok k31_ok ?_
 intro T C r outs h
 unfold sp11B at h
 split at h
 ·rename_i q l
  simp only [Option.some.injEq, Prod.mk.injEq] at h
  obtain ⟨h1, rfl, rfl⟩ := h
  exact ⟨(new11 q l).1, (new11 q l).2.2 h1⟩
 ·cases h
end Go.Proofs.Gv
