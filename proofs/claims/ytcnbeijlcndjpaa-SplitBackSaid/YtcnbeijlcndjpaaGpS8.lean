/-
The plain law of SplitBack.
-/
import Derived.Test.YtcnbeijlcndjpaaGaSp8
import Derived.Test.YtcnbeijlcndjpaaGpSpF
import Derived.Test.YtcnbeijlcndjpaaGwI
namespace Go.Proofs.Gv
open Go.Proofs
set_option linter.unusedVariables false
def u8 (x : Int) : UInt8 := UInt8.ofNat x.toNat
theorem u8_val {x : Int} (h : 0 ≤ x ∧ x ≤ 255) : ((u8 x).toNat : Int) = x := by
  unfold u8
  rw [UInt8.toNat_ofNat']
  omega
theorem u8_row {x : Int} (h : 0 ≤ x ∧ x ≤ 255) : ofB (u8 x) = [.int .u8 x] := by
  unfold ofB
  rw [u8_val h]
theorem w8 (x : Int) : IntKind.u8.wrap x = x % 256 := IntKind.wrap_u8 x
/-- A head's bytes. -/
theorem put9 {a b c d : Int} (ha : 0 ≤ a ∧ a ≤ 60) (hb : 0 ≤ b ∧ b ≤ 255) (hc : 0 ≤ c ∧ c ≤ 255) (hd : 0 ≤ d ∧ d ≤ 2147483647) : vev9_1 a b c d = 0 ∧ ∃ s : List UInt8, vev9_0 a b c d = s.map ofB ∧ s.length = 9 ∧ Ln s = a ∧ bA s 3 = b ∧ bA s 4 = c ∧ Sn s = d := by
  have h0 : vev11_0 a b c d = 0 := by
    unfold vev11_0
    rw [decide_eq_false (show ¬ a < 0 by omega), decide_eq_false (show ¬ a > 16777215 by omega), decide_eq_false (show ¬ d < 0 by omega), decide_eq_false (show ¬ d > 2147483647 by omega)]
    rfl
  refine ⟨by unfold vev9_1; rw [h0]; rfl, ?_⟩
  have f : ∀ x y : Int, 0 ≤ x → 0 < y → x.fdiv y = x / y := fun x y hx hy => by rw [Int.fdiv_eq_ediv_of_nonneg _ (by omega)]
  unfold vev9_0
  rw [h0, two16, two8, two24, wrapU a (by omega) (by omega), wrapU d (by omega) (by omega), f a _ (by omega) (by omega), f a _ (by omega) (by omega), f d _ (by omega) (by omega), f d _ (by omega) (by omega), f d _ (by omega) (by omega), w8, w8, w8, w8, w8, w8, w8]
  refine ⟨[u8 (a / 65536 % 256), u8 (a / 256 % 256), u8 (a % 256), u8 b, u8 c, u8 (d / 16777216 % 256), u8 (d / 65536 % 256), u8 (d / 256 % 256), u8 (d % 256)], ?_, rfl, ?_, u8_val hb, u8_val hc, ?_⟩
  · simp only [List.map_cons, List.map_nil]
    rw [u8_row (by omega), u8_row (by omega), u8_row (by omega), u8_row hb, u8_row hc, u8_row (by omega), u8_row (by omega), u8_row (by omega), u8_row (by omega)]
    rfl
  · show 65536 * ((u8 (a / 65536 % 256)).toNat : Int) + 256 * ((u8 (a / 256 % 256)).toNat : Int) + ((u8 (a % 256)).toNat : Int) = a
    rw [u8_val (by omega), u8_val (by omega), u8_val (by omega)]
    omega
  · show (16777216 * ((u8 (d / 16777216 % 256)).toNat : Int) + 65536 * ((u8 (d / 65536 % 256)).toNat : Int) + 256 * ((u8 (d / 256 % 256)).toNat : Int) + ((u8 (d % 256)).toNat : Int)) % 2147483648 = d
    rw [u8_val (by omega), u8_val (by omega), u8_val (by omega), u8_val (by omega)]
    omega
theorem put_no {a b c d : Int} (ha : 0 ≤ a ∧ a ≤ 60) (hd : ¬ (0 ≤ d ∧ d ≤ 2147483647)) : vev9_1 a b c d = 8 ∧ vev9_0 a b c d = [] := by
  have h0 : vev11_0 a b c d = 8 := by
    unfold vev11_0
    rw [decide_eq_false (show ¬ a < 0 by omega), decide_eq_false (show ¬ a > 16777215 by omega)]
    by_cases h : d < 0
    · rw [decide_eq_true h]; rfl
    · rw [decide_eq_false h, decide_eq_true (show d > 2147483647 by omega)]; rfl
  unfold vev9_1 vev9_0
  rw [h0]
  exact ⟨rfl, rfl⟩
theorem greet24 (l : List UInt8) : greetM 24 l = some (24, l) := by
  cases l with
  | nil => rfl
  | cons a l => rfl
theorem may24 {s : List UInt8} (h : whole s = 0) : May 24 s := ⟨Nat.le_refl _, fun h => absurd h (by omega), h⟩
/-- What bytes behind the preface make. -/
theorem feed24 {s l : List UInt8} (hw : whole s = 0) (hs : s.length ≤ 400) (hl : l.length ≤ 400) (h2 : ¬ whole (cutF (s ++ l)).2 < 0) :
    vev19_0 24 s false (l.map ofB) = 24 ∧ vev19_1 24 s false (l.map ofB) = (cutF (s ++ l)).2 ∧ vev19_2 24 s false (l.map ofB) = false ∧ vev19_3 24 s false (l.map ofB) = (cutF (s ++ l)).1 ∧ vev19_4 24 s false (l.map ofB) = 0 ∧ vev19_5 24 s false (l.map ofB) = true := by
  have h := feed19 (l := l) (may24 hw) (by omega) (by omega)
  have e : feedM 24 s l = (24, (cutF (s ++ l)).2, false, (cutF (s ++ l)).1, 0) := by
    unfold feedM
    rw [greet24]
    dsimp only
    rw [if_neg h2]
    rfl
  rw [e] at h
  obtain ⟨h3, h4⟩ := h
  simp only [Prod.mk.injEq] at h3
  exact ⟨h3.1, h3.2.1, h3.2.2.1, h3.2.2.2.1, h3.2.2.2.2, h4⟩
theorem cut_no {s : List UInt8} (h : ¬ 0 < whole s) : cutF s = ([], s) := cutM_no h
theorem cut_one {s : List UInt8} (h : 0 < whole s) (h2 : (whole s).toNat = s.length) : cutF s = ([rowM s], []) := by
  unfold cutF
  have hp := whole_pos h
  obtain ⟨n, hn⟩ : ∃ n, s.length = n + 1 := ⟨s.length - 1, by omega⟩
  rw [hn, cutM_go h, h2, List.drop_length]
  rw [cutM_no (s := []) (by decide)]
theorem left24 {s : List UInt8} (hw : whole s = 0) (hs : s.length ≤ 400) : vev25_1 24 s false = true ∧ vev25_0 24 s false = (if 9 ≤ s.length then 9 + Ln s - s.length else 9 - (s.length : Int)) := by
  have hm := may24 hw
  have hq : (bif false then true else bif vev33_5 s then vev23_0 24 s false != (0 : Int) else false) = false := Q19 hm hs
  have hL := Ln_le s
  unfold vev25_1 vev25_0
  rw [hq, head_ok (by omega)]
  by_cases h9 : 9 ≤ s.length
  · obtain ⟨e0, _, _, _, e4⟩ := head_code h9
    rw [e0, e4, if_pos h9, wrapOf (9 + Ln s) (by omega) (by omega), wrapOf (9 + Ln s - s.length) (by omega) (by omega)]
    exact ⟨rfl, rfl⟩
  · obtain ⟨_, _, _, _, e4⟩ := head_code' h9
    rw [e4, if_neg h9, wrapOf (9 - (s.length : Int)) (by omega) (by omega)]
    exact ⟨rfl, rfl⟩
variable {es : List (List AV)} {k by' : Int}
/-- A frame's parts. -/
def f0 (es : List (List AV)) (i : Nat) : List UInt8 := strOf ((es.getD i []).getD 4 .junk)
def f2 (es : List (List AV)) (i : Nat) : Int := intOf ((es.getD i []).getD 1 .junk)
def f3 (es : List (List AV)) (i : Nat) : Int := intOf ((es.getD i []).getD 2 .junk)
def f4 (es : List (List AV)) (i : Nat) : Int := intOf ((es.getD i []).getD 3 .junk)
abbrev okF (es : List (List AV)) : Prop := ∀ x ∈ es, okKL [.int .i64, .int .u8, .int .u8, .int .i64, .str] x
theorem f_in (h : okF es) {i : Nat} (hi : i < es.length) : (0 ≤ f2 es i ∧ f2 es i ≤ 255) ∧ (0 ≤ f3 es i ∧ f3 es i ≤ 255) ∧ (f0 es i).length ≤ maxLen := by
  have hm : es.getD i [] ∈ es := by
    rw [List.getD_eq_getElem?_getD, List.getElem?_eq_getElem hi]
    exact List.getElem_mem hi
  have hx := h _ hm
  unfold f0 f2 f3
  generalize es.getD i [] = x at hx
  simp only [okKL, okK] at hx
  obtain ⟨_, _, rfl, ⟨a, rfl, ha⟩, _, _, rfl, ⟨b, rfl, hb⟩, _, _, rfl, ⟨c, rfl, hc⟩, _, _, rfl, ⟨d, rfl, hd⟩, _, _, rfl, ⟨s, rfl, hs⟩, rfl⟩ := hx
  have kk : ∀ x : Int, (decide (0 ≤ x) && decide (x ≤ 255)) = true → 0 ≤ x ∧ x ≤ 255 := fun x h => by simpa using h
  exact ⟨kk _ hb, kk _ hc, hs⟩
/-- Here the law ends early. -/
def out8 (es : List (List AV)) (i : Nat) : Bool := decide (((f0 es i).length : Int) > 60) || !(decide (0 ≤ f4 es i) && decide (f4 es i ≤ 2147483647))
theorem whole9 {s : List UInt8} {a : Int} (h9 : s.length = 9) (hL : Ln s = a) (ha : 0 ≤ a ∧ a ≤ 60) (l : List UInt8) (hl : (l.length : Int) = a) : (a ≠ 0 → whole s = 0) ∧ (0 < whole (s ++ l) ∧ (whole (s ++ l)).toNat = (s ++ l).length) ∧ rowM (s ++ l) = [.int .i64 a, .int .u8 (bA s 3), .int .u8 (bA s 4), .int .i64 (Sn s), .str l] := by
  have hb : ∀ i, i < 9 → bA (s ++ l) i = bA s i := fun i hi => bA_app (by omega)
  have hL2 : Ln (s ++ l) = a := by
    rw [← hL]
    unfold Ln
    rw [hb 0 (by omega), hb 1 (by omega), hb 2 (by omega)]
  have hS : Sn (s ++ l) = Sn s := by
    unfold Sn
    rw [hb 5 (by omega), hb 6 (by omega), hb 7 (by omega), hb 8 (by omega)]
  have hlen : (s ++ l).length = 9 + l.length := by rw [List.length_append, h9]
  have hw : whole (s ++ l) = 9 + a := by
    unfold whole
    rw [if_neg (by omega), hL2, if_neg (by omega), if_neg (by omega)]
  refine ⟨fun h0 => ?_, ⟨by omega, by omega⟩, ?_⟩
  · unfold whole
    rw [if_neg (by omega), hL, if_neg (by omega), if_pos (by omega)]
  · unfold rowM
    rw [hL2, hb 3 (by omega), hb 4 (by omega), hS, hw, List.take_of_length_le (by omega), show List.drop 9 (s ++ l) = l from List.drop_left' h9]
theorem bytes_ok {l : List UInt8} (h : l.length ≤ 60) : decide (l.length ≤ 4611686018427387904) = true := decide_eq_true (by omega)
/-- One frame. -/
theorem round8 (h : okF es) {i : Nat} (hi : i < es.length) (ho : out8 es i = false) : go8_7 es k by' (i : Int) 24 [] false = true ∧ nx8_7_4 es k by' (i : Int) 24 [] false = 24 ∧ nx8_7_5 es k by' (i : Int) 24 [] false = [] ∧ nx8_7_6 es k by' (i : Int) 24 [] false = false := by
  obtain ⟨h2, h3, hm⟩ := f_in h hi
  simp only [out8, Bool.or_eq_false_iff, decide_eq_false_iff_not, Bool.not_eq_false', Bool.and_eq_true, decide_eq_true_eq] at ho
  obtain ⟨ho1, ho2⟩ := ho
  have e0 : rn8_7_0 es k by' (i : Int) 24 [] false = f0 es i := by unfold rn8_7_0; rw [Int.toNat_natCast]; rfl
  have e1 : rn8_7_1 es k by' (i : Int) 24 [] false = ((f0 es i).length : Int) := by unfold rn8_7_1; rw [e0]
  have e2 : rn8_7_2 es k by' (i : Int) 24 [] false = f2 es i := by unfold rn8_7_2; rw [Int.toNat_natCast]; rfl
  have e3 : rn8_7_3 es k by' (i : Int) 24 [] false = f3 es i := by unfold rn8_7_3; rw [Int.toNat_natCast]; rfl
  have e4 : rn8_7_4 es k by' (i : Int) 24 [] false = f4 es i := by unfold rn8_7_4; rw [Int.toNat_natCast]; rfl
  obtain ⟨p1, s, p0, p9, pL, pt, pf', pS⟩ := put9 (a := ((f0 es i).length : Int)) (b := f2 es i) (c := f3 es i) (d := f4 es i) (by omega) h2 h3 ho2
  have e5 : rn8_7_5 es k by' (i : Int) 24 [] false = s.map ofB := by unfold rn8_7_5; rw [e1, e2, e3, e4, p0]
  have e9 : rn8_7_9 es k by' (i : Int) 24 [] false = (f0 es i).map ofB := by unfold rn8_7_9; rw [e0]
  obtain ⟨w0, ⟨w1, w2⟩, w3⟩ := whole9 p9 pL (by omega) (f0 es i) rfl
  have c2 := cut_one w1 w2
  rw [w3, pt, pf', pS] at c2
  have l0 := left24 (s := []) rfl (by decide)
  have l00 : vev25_0 24 [] false = 9 := by rw [l0.2]; rfl
  have dg : ∀ n : Nat, n ≤ 1 → decide ((0 + n) * 40 ≤ 140737488355328) = true := fun n hn => decide_eq_true (by omega)
  have dh : ∀ n : Nat, n ≤ 1 → decide (0 + n ≤ 9223372036854775807) = true := fun n hn => decide_eq_true (by omega)
  by_cases hz : (f0 es i).length = 0
  · -- a frame of nothing
    have hn : f0 es i = [] := List.length_eq_zero_iff.1 hz
    rw [hn, List.append_nil] at c2
    have fa := feed24 (s := []) (l := s) rfl (by decide) (by omega) (by rw [List.nil_append, c2]; show ¬ whole [] < 0; decide)
    rw [List.nil_append, c2] at fa
    obtain ⟨a0, a1, a2, a3, a4, a5⟩ := fa
    have fb := feed24 (s := []) (l := []) rfl (by decide) (by decide) (by decide)
    obtain ⟨b0, b1, b2, b3, b4, b5⟩ := fb
    have hc0 : cutF ([] ++ []) = ([], []) := rfl
    rw [hc0] at b1 b3
    have e6 : rn8_7_6 es k by' (i : Int) 24 [] false = [[.int .i64 0, .int .u8 (f2 es i), .int .u8 (f3 es i), .int .i64 (f4 es i), .str []]] := by unfold rn8_7_6; rw [e5, a3]; rfl
    have e7 : rn8_7_7 es k by' (i : Int) 24 [] false = 24 := by unfold rn8_7_7; rw [e5, a0]
    have e8 : rn8_7_8 es k by' (i : Int) 24 [] false = [] := by unfold rn8_7_8; rw [e5, a1]
    have e9' : rn8_7_9 es k by' (i : Int) 24 [] false = ([] : List UInt8).map ofB := by rw [e9, hn]
    have e10 : rn8_7_10 es k by' (i : Int) 24 [] false = [[.int .i64 0, .int .u8 (f2 es i), .int .u8 (f3 es i), .int .i64 (f4 es i), .str []]] := by unfold rn8_7_10; rw [e6]; rfl
    have e11 : rn8_7_11 es k by' (i : Int) 24 [] false = [] := by unfold rn8_7_11; rw [e7, e8, e9', e5, a2, b3]
    have e12 : rn8_7_12 es k by' (i : Int) 24 [] false = [[.int .i64 0, .int .u8 (f2 es i), .int .u8 (f3 es i), .int .i64 (f4 es i), .str []]] := by unfold rn8_7_12; rw [e10, e11]; rfl
    have e13 : rn8_7_13 es k by' (i : Int) 24 [] false = 1 := by unfold rn8_7_13; rw [e12]; rfl
    refine ⟨?_, ?_, ?_, ?_⟩
    · unfold go8_7
      rw [dlt, decide_eq_true hi, dge, e1, e2, e3, e4, p1, e7, e8, e9', e5, a2, a4, a5, b4, b5, l0.1, l00, e0, e6, e10, e11, e12, e13, hn]
      show (bif (bif !((0 : Int) == 0 && (f2 es i == f2 es i && (f3 es i == f3 es i && (f4 es i == f4 es i && true)))) then true else true) then (bif (bif !((0 : Int) == 0 && (f2 es i == f2 es i && (f3 es i == f3 es i && (f4 es i == f4 es i && true)))) then true else false) then false else true) else false) = true
      rw [beq_self_eq_true, beq_self_eq_true, beq_self_eq_true, beq_self_eq_true]
      rfl
    · unfold nx8_7_4; rw [e7, e8, e9', e5, a2, b0]
    · unfold nx8_7_5; rw [e7, e8, e9', e5, a2, b1]
    · unfold nx8_7_6; rw [e7, e8, e9', e5, a2, b2]
  · have hw := w0 (by omega)
    have ca : cutF ([] ++ s) = ([], s) := cut_no (by rw [List.nil_append, hw]; decide)
    have fa := feed24 (s := []) (l := s) rfl (by decide) (by omega) (by rw [ca]; show ¬ whole s < 0; omega)
    rw [ca] at fa
    obtain ⟨a0, a1, a2, a3, a4, a5⟩ := fa
    have fb := feed24 (s := s) (l := f0 es i) hw (by omega) (by omega) (by rw [c2]; show ¬ whole [] < 0; decide)
    rw [c2] at fb
    obtain ⟨b0, b1, b2, b3, b4, b5⟩ := fb
    have ls := left24 hw (by omega)
    have ls0 : vev25_0 24 s false = ((f0 es i).length : Int) := by rw [ls.2, if_pos (by omega), pL, p9]; omega
    have e6 : rn8_7_6 es k by' (i : Int) 24 [] false = [] := by unfold rn8_7_6; rw [e5, a3]
    have e7 : rn8_7_7 es k by' (i : Int) 24 [] false = 24 := by unfold rn8_7_7; rw [e5, a0]
    have e8 : rn8_7_8 es k by' (i : Int) 24 [] false = s := by unfold rn8_7_8; rw [e5, a1]
    have e10 : rn8_7_10 es k by' (i : Int) 24 [] false = [] := by unfold rn8_7_10; rw [e6]; rfl
    have e11 : rn8_7_11 es k by' (i : Int) 24 [] false = [[.int .i64 ((f0 es i).length : Int), .int .u8 (f2 es i), .int .u8 (f3 es i), .int .i64 (f4 es i), .str (f0 es i)]] := by unfold rn8_7_11; rw [e7, e8, e9, e5, a2, b3]
    have e12 : rn8_7_12 es k by' (i : Int) 24 [] false = [[.int .i64 ((f0 es i).length : Int), .int .u8 (f2 es i), .int .u8 (f3 es i), .int .i64 (f4 es i), .str (f0 es i)]] := by unfold rn8_7_12; rw [e10, e11]; rfl
    have e13 : rn8_7_13 es k by' (i : Int) 24 [] false = 1 := by unfold rn8_7_13; rw [e12]; rfl
    have dn : (((f0 es i).length : Int) != ((f0 es i).length : Int)) = false := by simp
    refine ⟨?_, ?_, ?_, ?_⟩
    · unfold go8_7
      rw [dlt, decide_eq_true hi, dge, e1, e2, e3, e4, p1, e7, e8, e9, e5, a2, a4, a5, b4, b5, l0.1, l00, ls.1, ls0, e0, e6, e10, e11, e12, e13, decide_eq_false ho1, decide_eq_true (show ((f0 es i).length : Int) > 0 by omega), dn, decide_eq_true (show (f0 es i).length ≤ 4611686018427387904 by omega)]
      show (bif (bif !(((f0 es i).length : Int) == ((f0 es i).length : Int) && (f2 es i == f2 es i && (f3 es i == f3 es i && (f4 es i == f4 es i && true)))) then true else true) then (bif (bif !(((f0 es i).length : Int) == ((f0 es i).length : Int) && (f2 es i == f2 es i && (f3 es i == f3 es i && (f4 es i == f4 es i && true)))) then true else !(f0 es i == f0 es i)) then false else true) else false) = true
      rw [beq_self_eq_true, beq_self_eq_true, beq_self_eq_true, beq_self_eq_true, beq_self_eq_true]
      rfl
    · unfold nx8_7_4; rw [e7, e8, e9, e5, a2, b0]
    · unfold nx8_7_5; rw [e7, e8, e9, e5, a2, b1]
    · unfold nx8_7_6; rw [e7, e8, e9, e5, a2, b2]
/-- Where it ends early. -/
theorem out_at {i : Nat} (hi : i < es.length) (ho : out8 es i = true) : go8_7 es k by' (i : Int) 24 [] false = false ∧ xc8_7_0 es k by' (i : Int) 24 [] false = true ∧ xv8_7_0_0 es k by' (i : Int) 24 [] false = true := by
  have e0 : rn8_7_0 es k by' (i : Int) 24 [] false = f0 es i := by unfold rn8_7_0; rw [Int.toNat_natCast]; rfl
  have e1 : rn8_7_1 es k by' (i : Int) 24 [] false = ((f0 es i).length : Int) := by unfold rn8_7_1; rw [e0]
  have e4 : rn8_7_4 es k by' (i : Int) 24 [] false = f4 es i := by unfold rn8_7_4; rw [Int.toNat_natCast]; rfl
  unfold go8_7 xc8_7_0 xv8_7_0_0
  rw [dlt, decide_eq_true hi, dge, e1, e4]
  by_cases h60 : ((f0 es i).length : Int) > 60
  · rw [decide_eq_true h60]
    exact ⟨rfl, rfl, rfl⟩
  · have hd : ¬ (0 ≤ f4 es i ∧ f4 es i ≤ 2147483647) := by
      intro hd
      simp only [out8, Bool.or_eq_true, decide_eq_true_eq, Bool.not_eq_true', Bool.and_eq_false_iff, decide_eq_false_iff_not] at ho
      omega
    have hp := put_no (a := ((f0 es i).length : Int)) (b := rn8_7_2 es k by' (i : Int) 24 [] false) (c := rn8_7_3 es k by' (i : Int) 24 [] false) (by omega) hd
    have e5 : rn8_7_5 es k by' (i : Int) 24 [] false = [] := by unfold rn8_7_5; rw [e1, e4, hp.2]
    rw [decide_eq_false h60, hp.1, e5]
    exact ⟨rfl, rfl, rfl⟩
theorem end_at {i : Nat} (hi : ¬ i < es.length) : go8_7 es k by' (i : Int) 24 [] false = false ∧ xc8_7_0 es k by' (i : Int) 24 [] false = false := by
  unfold go8_7 xc8_7_0
  rw [dlt, decide_eq_false hi]
  exact ⟨rfl, rfl⟩
theorem ends8 (h : okF es) (hN : es.length ≤ 12) : Ends (g8_7 (es, k, by')) (n8_7 (es, k, by')) ((0 : Int), (24 : Int), [], false) (((fs (out8 es) 0 es.length : Nat) : Int), (24 : Int), [], false) := by
  have hm := fs_le (P := out8 es) (s := 0) (N := es.length) (Nat.zero_le _)
  refine Ends.count (go := g8_7 (es, k, by')) (next := n8_7 (es, k, by')) (fs (out8 es) 0 es.length) (fun i => ((i : Int), (24 : Int), [], false)) (fun i hi => ?_) ?_
  · have hlt : i < es.length := by omega
    obtain ⟨r0, r1, r2, r3⟩ := round8 (k := k) (by' := by') h hlt (fs_miss (Nat.zero_le _) hi)
    refine ⟨r0, ?_⟩
    show (nx8_7_3 es k by' (i : Int) 24 [] false, nx8_7_4 es k by' (i : Int) 24 [] false, nx8_7_5 es k by' (i : Int) 24 [] false, nx8_7_6 es k by' (i : Int) 24 [] false) = _
    have hw : nx8_7_3 es k by' (i : Int) 24 [] false = ((i + 1 : Nat) : Int) := step64 i _ hlt (by omega)
    rw [hw, r1, r2, r3]
  · show go8_7 es k by' ((fs (out8 es) 0 es.length : Nat) : Int) 24 [] false = false
    by_cases h2 : fs (out8 es) 0 es.length < es.length
    · exact (out_at h2 (fs_hit h2)).1
    · exact (end_at h2).1
/-- The preface, one byte of which is another one. -/
theorem bad_all : (List.range 24).all (fun i => (List.range 255).all (fun b => decide (0 ≤ bits .xor .u8 ((pf.getD i 0).toNat : Int) (IntKind.u8.wrap (1 + (b : Int)))) && (decide (bits .xor .u8 ((pf.getD i 0).toNat : Int) (IntKind.u8.wrap (1 + (b : Int))) ≤ 255) && (bits .xor .u8 ((pf.getD i 0).toNat : Int) (IntKind.u8.wrap (1 + (b : Int))) != ((pf.getD i 0).toNat : Int))))) = true := by kernel_rfl
theorem bad_of {m : Nat} {b : Int} (hm : m < 24) (hb : 0 ≤ b ∧ b ≤ 254) : (0 ≤ bits .xor .u8 ((pf.getD m 0).toNat : Int) (IntKind.u8.wrap (1 + b)) ∧ bits .xor .u8 ((pf.getD m 0).toNat : Int) (IntKind.u8.wrap (1 + b)) ≤ 255) ∧ bits .xor .u8 ((pf.getD m 0).toNat : Int) (IntKind.u8.wrap (1 + b)) ≠ ((pf.getD m 0).toNat : Int) := by
  have h1 := List.all_eq_true.1 bad_all m (List.mem_range.2 hm)
  have h2 := List.all_eq_true.1 h1 b.toNat (List.mem_range.2 (by omega))
  have e : ((b.toNat : Nat) : Int) = b := by omega
  rw [e] at h2
  simp only [Bool.and_eq_true, decide_eq_true_eq, bne_iff_ne, ne_eq] at h2
  exact ⟨⟨h2.1, h2.2.1⟩, h2.2.2⟩
theorem pf_rows : ([[AV.int IntKind.u8 (80 : Int)], [AV.int IntKind.u8 (82 : Int)], [AV.int IntKind.u8 (73 : Int)], [AV.int IntKind.u8 (32 : Int)], [AV.int IntKind.u8 (42 : Int)], [AV.int IntKind.u8 (32 : Int)], [AV.int IntKind.u8 (72 : Int)], [AV.int IntKind.u8 (84 : Int)], [AV.int IntKind.u8 (84 : Int)], [AV.int IntKind.u8 (80 : Int)], [AV.int IntKind.u8 (47 : Int)], [AV.int IntKind.u8 (50 : Int)], [AV.int IntKind.u8 (46 : Int)], [AV.int IntKind.u8 (48 : Int)], [AV.int IntKind.u8 (13 : Int)], [AV.int IntKind.u8 (10 : Int)], [AV.int IntKind.u8 (13 : Int)], [AV.int IntKind.u8 (10 : Int)], [AV.int IntKind.u8 (83 : Int)], [AV.int IntKind.u8 (77 : Int)], [AV.int IntKind.u8 (13 : Int)], [AV.int IntKind.u8 (10 : Int)], [AV.int IntKind.u8 (13 : Int)], [AV.int IntKind.u8 (10 : Int)]] : List (List AV)) = pf.map ofB := rfl
theorem feed0 (l : List UInt8) (hl : l.length ≤ 400) : (vev19_0 0 [] false (l.map ofB), vev19_1 0 [] false (l.map ofB), vev19_2 0 [] false (l.map ofB), vev19_3 0 [] false (l.map ofB), vev19_4 0 [] false (l.map ofB)) = feedM 0 [] l ∧ vev19_5 0 [] false (l.map ofB) = true :=
  feed19 (g := 0) (s := []) (l := l) ⟨by omega, fun _ => rfl, rfl⟩ (by decide) (by omega)
theorem feed_pf : feedM 0 [] pf = (24, [], false, [], 0) := by kernel_rfl
theorem plain8 (h : okF es) (hk : 0 ≤ k ∧ k ≤ 255) (hb : 0 ≤ by' ∧ by' ≤ 255) : vev8_0 es k by' = true ∧ vev8_1 es k by' = true := by
  unfold vev8_0 vev8_1
  rw [nil_eq, pf_rows]
  by_cases hN : (es.length : Int) > 12
  · rw [decide_eq_true hN]; exact ⟨rfl, rfl⟩
  rw [decide_eq_false hN]
  have hp := feed0 pf (by decide)
  rw [feed_pf] at hp
  obtain ⟨hp, hp5⟩ := hp
  simp only [Prod.mk.injEq] at hp
  obtain ⟨p0, p1, p2, p3, p4⟩ := hp
  have hE := (ends8 (k := k) (by' := by') h (by omega)).fin
  have e0 : rev8_0 es k by' = (((fs (out8 es) 0 es.length : Nat) : Int), (24 : Int), [], false) := by
    have e : rev8_0 es k by' = finL (g8_7 (es, k, by')) (n8_7 (es, k, by')) ((0 : Int), vev19_0 0 [] false (pf.map ofB), vev19_1 0 [] false (pf.map ofB), vev19_2 0 [] false (pf.map ofB)) := rfl
    rw [e, p0, p1, p2, hE.2]
  have e1 : rev8_1 es k by' = ((fs (out8 es) 0 es.length : Nat) : Int) := by unfold rev8_1; rw [e0]
  have e2 : rev8_2 es k by' = 24 := by unfold rev8_2; rw [e0]
  have e3 : rev8_3 es k by' = [] := by unfold rev8_3; rw [e0]
  have hx : xc8_7_0 es k by' ((fs (out8 es) 0 es.length : Nat) : Int) 24 [] false = decide (fs (out8 es) 0 es.length < es.length) := by
    by_cases h2 : fs (out8 es) 0 es.length < es.length
    · rw [(out_at h2 (fs_hit h2)).2.1, decide_eq_true h2]
    · rw [(end_at h2).2, decide_eq_false h2]
  have hs : (spI g8_7 n8_7 y8_7 z8_7 d8_7 ((es, k, by'), (0 : Int), (24 : Int), [], false)).fst = true := by
    simp only [spI]
    rw [hE.2, hE.1]
    unfold y8_7 z8_7 xc8_7_1
    dsimp only
    rw [dlt, List.any_cons, List.any_nil, hx]
    cases decide (fs (out8 es) 0 es.length < es.length) <;> rfl
  by_cases h2 : fs (out8 es) 0 es.length < es.length
  · have ho := fs_hit h2
    have x4 : rev8_4 es k by' = ((f0 es (fs (out8 es) 0 es.length)).length : Int) := by
      have e : rev8_4 es k by' = rn8_7_1 es k by' (rev8_1 es k by') (rev8_2 es k by') (rev8_3 es k by') (rev8_0 es k by').snd.snd.snd := rfl
      rw [e, e1]
      unfold rn8_7_1 rn8_7_0
      rw [Int.toNat_natCast]
      rfl
    have hxv := out_at (k := k) (by' := by') h2 ho
    rw [e0, e1, e2, e3, p0, p1, p2, p3, p4, hp5, hs, x4, dlt, decide_eq_true h2, dge]
    dsimp only
    rw [hxv.2.2]
    by_cases h60 : ((f0 es (fs (out8 es) 0 es.length)).length : Int) > 60
    · rw [decide_eq_true h60]
      exact ⟨rfl, rfl⟩
    · have hd : ¬ (0 ≤ f4 es (fs (out8 es) 0 es.length) ∧ f4 es (fs (out8 es) 0 es.length) ≤ 2147483647) := by
        intro hd
        simp only [out8, Bool.or_eq_true, decide_eq_true_eq, Bool.not_eq_true', Bool.and_eq_false_iff, decide_eq_false_iff_not] at ho
        omega
      have x7 : rev8_7 es k by' = f4 es (fs (out8 es) 0 es.length) := by
        have e : rev8_7 es k by' = rn8_7_4 es k by' (rev8_1 es k by') (rev8_2 es k by') (rev8_3 es k by') (rev8_0 es k by').snd.snd.snd := rfl
        rw [e, e1]
        unfold rn8_7_4
        rw [Int.toNat_natCast]
        rfl
      have x8 : rev8_8 es k by' = 8 := by
        have e : rev8_8 es k by' = vev9_1 (rev8_4 es k by') (rev8_5 es k by') (rev8_6 es k by') (rev8_7 es k by') := rfl
        rw [e, x4, x7]
        exact (put_no (by omega) hd).1
      rw [decide_eq_false h60, x8]
      exact ⟨rfl, rfl⟩
  · rw [e0, e1, e2, e3, p0, p1, p2, p3, p4, hp5, hs, dlt, decide_eq_false h2]
    have e24 : rev8_24 es k by' = ((k % 24).toNat : Int) := by
      have e : rev8_24 es k by' = (IntKind.i64.wrap k).tmod 24 := rfl
      rw [e, wrapOf k (by omega) (by omega), Int.tmod_eq_emod_of_nonneg hk.1]
      omega
    have hm : (k % 24).toNat < 24 := by omega
    have hbb := bad_of (b := by' % 255) hm (by omega)
    have e25 : rev8_25 es k by' = (pf.set (k % 24).toNat (u8 (bits .xor .u8 ((pf.getD (k % 24).toNat 0).toNat : Int) (IntKind.u8.wrap (1 + by' % 255))))).map ofB := by
      have e : rev8_25 es k by' = (pf.map ofB).set (rev8_24 es k by').toNat [AV.int IntKind.u8 (bits BinOp.xor IntKind.u8 (intOf (((pf.map ofB).getD (rev8_24 es k by').toNat []).getD 0 AV.junk)) (IntKind.u8.wrap (1 + by'.tmod 255)))] := rfl
      rw [e, e24, Int.toNat_natCast, gB (by rw [pf_len]; exact hm), Int.tmod_eq_emod_of_nonneg hb.1]
      unfold bA
      rw [List.map_set, u8_row hbb.1]
    have hf := feed0 (pf.set (k % 24).toNat (u8 (bits .xor .u8 ((pf.getD (k % 24).toNat 0).toNat : Int) (IntKind.u8.wrap (1 + by' % 255))))) (by rw [List.length_set, pf_len]; omega)
    rw [← e25] at hf
    have hg : greetM 0 (pf.set (k % 24).toNat (u8 (bits .xor .u8 ((pf.getD (k % 24).toNat 0).toNat : Int) (IntKind.u8.wrap (1 + by' % 255))))) = none := by
      refine greet_none (k % 24).toNat _ 0 ?_ ?_
      · unfold gN; rw [List.length_set, pf_len]; omega
      · rw [Nat.zero_add]
        intro he
        refine hbb.2 ?_
        have h3 : (pf.set (k % 24).toNat (u8 (bits .xor .u8 ((pf.getD (k % 24).toNat 0).toNat : Int) (IntKind.u8.wrap (1 + by' % 255))))).getD (k % 24).toNat 0 = u8 (bits .xor .u8 ((pf.getD (k % 24).toNat 0).toNat : Int) (IntKind.u8.wrap (1 + by' % 255))) := by
          rw [List.getD_eq_getElem?_getD, List.getElem?_set_self (by rw [pf_len]; exact hm)]
          rfl
        rw [h3] at he
        have h4 := u8_val hbb.1
        rw [he] at h4
        exact h4.symm
    have hfm : feedM 0 [] (pf.set (k % 24).toNat (u8 (bits .xor .u8 ((pf.getD (k % 24).toNat 0).toNat : Int) (IntKind.u8.wrap (1 + by' % 255))))) = (0, [], true, [], 1) := by
      unfold feedM
      rw [hg]
    rw [hfm] at hf
    obtain ⟨hf, hf5⟩ := hf
    simp only [Prod.mk.injEq] at hf
    obtain ⟨q0, q1, q2, q3, q4⟩ := hf
    have e26 : rev8_26 es k by' = 0 := q0
    have e27 : rev8_27 es k by' = 0 := by
      have e : rev8_27 es k by' = ((vev19_3 0 [] false (rev8_25 es k by')).length : Int) := rfl
      rw [e, q3]
      rfl
    have e28 : rev8_28 es k by' = 1 := q4
    rw [e26, e27, e28, q1, q2, hf5, e24, decide_eq_true (show (0 : Int) ≤ ((k % 24).toNat : Int) by omega), decide_eq_true (show ((k % 24).toNat : Int) < ((pf.map ofB).length : Int) by rw [List.length_map, pf_len]; omega)]
    exact ⟨rfl, rfl⟩
theorem law8 (h : okF es) (hk : (Lit.int .u8 k).wf = true) (hb : (Lit.int .u8 by').wf = true) : FnOK Try.prog 8 [.sl .imm [.int .i64, .int .u8, .int .u8, .int .i64, .str] es, .int .u8 k, .int .u8 by'] [] (.bool true) [] := by
  have kk : ∀ x : Int, (Lit.int .u8 x).wf = true → 0 ≤ x ∧ x ≤ 255 := fun x h => by
    have h2 : (decide (0 ≤ x) && decide (x ≤ 255)) = true := h
    simpa using h2
  obtain ⟨h0, h1⟩ := plain8 h (kk _ hk) (kk _ hb)
  have he := ev8 es k by'
  rw [h1, h0, cond_true] at he
  exact (fn_ok mixed plain (gk_ok k9_ok 30) Try.func8 loops8 he).2
end Go.Proofs.Gv
