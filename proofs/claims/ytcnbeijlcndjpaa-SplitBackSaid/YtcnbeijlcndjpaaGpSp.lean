/-
Heads of frames, and whether a frame is whole: split and its document tell the same.
-/
import Derived.Test.YtcnbeijlcndjpaaGaSp
import Derived.Test.YtcnbeijlcndjpaaGwG
import Derived.Laws.BitsLemmas
namespace Go.Proofs.Gv
open Go.Proofs
set_option linter.unusedVariables false
theorem wrapOf (x : Int) (h0 : -9223372036854775808 ≤ x) (h1 : x ≤ 9223372036854775807) : IntKind.i64.wrap x = x := by
  rw [IntKind.wrap_i64]; omega
theorem wrapU (x : Int) (h0 : 0 ≤ x) (h1 : x ≤ 4294967295) : IntKind.u32.wrap x = x := by
  rw [IntKind.wrap_u32]; omega
theorem wraps_u32 (n : Int) (h₀ : 0 ≤ n) (h₁ : n < 2 ^ 32) : IntKind.u32.wrap n = n := wrapU n h₀ (by omega)
theorem or8 {x y : Int} (h0 : 0 ≤ x) (h : x % 256 = 0) (h1 : x ≤ 4294967295) (h2 : 0 ≤ y) (h3 : y ≤ 255) : bits .or .u32 x y = x + y :=
  bits_join .u32 32 (by decide) wraps_u32 8 x y h0 (by omega) (by omega) h2 (by omega) (by omega)
theorem or16 {x y : Int} (h0 : 0 ≤ x) (h : x % 65536 = 0) (h1 : x ≤ 4294967295) (h2 : 0 ≤ y) (h3 : y ≤ 65535) : bits .or .u32 x y = x + y :=
  bits_join .u32 32 (by decide) wraps_u32 16 x y h0 (by omega) (by omega) h2 (by omega) (by omega)
theorem or24 {x y : Int} (h0 : 0 ≤ x) (h : x % 16777216 = 0) (h1 : x ≤ 4294967295) (h2 : 0 ≤ y) (h3 : y ≤ 16777215) : bits .or .u32 x y = x + y :=
  bits_join .u32 32 (by decide) wraps_u32 24 x y h0 (by omega) (by omega) h2 (by omega) (by omega)
theorem and31 {x : Int} (h0 : 0 ≤ x) (h1 : x ≤ 4294967295) : bits .and .u32 x 2147483647 = x % 2147483648 :=
  bits_mask .u32 32 (by decide) wraps_u32 31 (by decide) x h0 (by omega)
/-- A byte of a text. -/
def bA (s : List UInt8) (i : Nat) : Int := ((s.getD i 0).toNat : Int)
theorem bA_le (s : List UInt8) (i : Nat) : 0 ≤ bA s i ∧ bA s i ≤ 255 := by
  unfold bA
  have := (s.getD i 0).toNat_lt
  omega
theorem row_at {s : List UInt8} {i : Nat} (h : i < s.length) : (s.map ofB).getD i [] = ofB (s.getD i 0) := by
  simp [List.getD, h]
theorem gB {s : List UInt8} {i : Nat} (h : i < s.length) : intOf (((s.map ofB).getD i []).getD 0 AV.junk) = bA s i := by
  rw [row_at h]
  rfl
theorem bA_take {s : List UInt8} {i n : Nat} (h : i < n) : bA (s.take n) i = bA s i := by
  unfold bA
  simp [List.getD, List.getElem?_take, h]
theorem bA_drop {s : List UInt8} {i n : Nat} : bA (s.drop n) i = bA s (n + i) := by
  unfold bA
  simp [List.getD, List.getElem?_drop]
theorem bA_app {s t : List UInt8} {i : Nat} (h : i < s.length) : bA (s ++ t) i = bA s i := by
  unfold bA
  simp [List.getD, List.getElem?_append, h]
/-- The number of bytes. -/
def numA (s : List UInt8) (n : Nat) : Int :=
  match n with
  | 0 => 0
  | n + 1 => 256 * numA s n + bA s n
theorem numA_le (s : List UInt8) : ∀ n, n ≤ 4 → 0 ≤ numA s n ∧ numA s n ≤ 4294967295 := by
  intro n hn
  have h0 := bA_le s 0
  have h1 := bA_le s 1
  have h2 := bA_le s 2
  have h3 := bA_le s 3
  have hc : n = 0 ∨ n = 1 ∨ n = 2 ∨ n = 3 ∨ n = 4 := by omega
  rcases hc with h | h | h | h | h <;> subst h <;> simp only [numA] <;> omega
theorem ends29 {tk : Tk} {s : List UInt8} (hl : s.length ≤ 4) : Ends (g29_3 (tk, s.map ofB)) (n29_3 (tk, s.map ofB)) ((0 : Int), (0 : Int)) (numA s s.length, (s.length : Int)) := by
  refine Ends.count (go := g29_3 (tk, s.map ofB)) (next := n29_3 (tk, s.map ofB)) s.length (fun i => (numA s i, (i : Int))) (fun i hi => ⟨?_, ?_⟩) ?_
  · unfold g29_3 go29_3
    dsimp only
    rw [List.length_map, decide_eq_true (show (i : Int) < (s.length : Int) by omega), decide_eq_true (show (0 : Int) ≤ (i : Int) by omega)]
    rfl
  · unfold n29_3 nx29_3_2 nx29_3_3
    dsimp only
    have hb := numA_le s i (by omega)
    have hc := bA_le s i
    rw [Int.toNat_natCast, gB hi, wrapN i s.length hi (by omega), wrapOf (256 * numA s i) (by omega) (by omega), wrapOf (bA s i) (by omega) (by omega), wrapOf _ (by omega) (by omega)]
    rfl
  · unfold g29_3 go29_3
    dsimp only
    rw [List.length_map, decide_eq_false (by omega)]
    rfl
theorem r29 {tk : Tk} {s : List UInt8} (hl : s.length ≤ 4) : vev29_0 tk (s.map ofB) = numA s s.length ∧ vev29_1 tk (s.map ofB) = true := by
  have h := (ends29 (tk := tk) hl).fin
  unfold vev29_0 vev29_1
  simp only [spI]
  rw [h.2, h.1]
  refine ⟨rfl, ?_⟩
  unfold y29_3 z29_3 xc29_3_0
  dsimp only
  rw [List.length_map, decide_eq_false (by omega)]
  rfl
/-- The length, and the number of the stream, that a head tells. -/
def Ln (s : List UInt8) : Int := 65536 * bA s 0 + 256 * bA s 1 + bA s 2
def Sn (s : List UInt8) : Int := (16777216 * bA s 5 + 65536 * bA s 6 + 256 * bA s 7 + bA s 8) % 2147483648
theorem Ln_le (s : List UInt8) : 0 ≤ Ln s ∧ Ln s ≤ 16777215 := by
  have h0 := bA_le s 0
  have h1 := bA_le s 1
  have h2 := bA_le s 2
  unfold Ln
  omega
section
variable {s : List UInt8}
theorem lt9 (h : 9 ≤ s.length) : decide ((s.length : Int) < 9) = false := decide_eq_false (by omega)
theorem lt9' (h : ¬ 9 ≤ s.length) : decide ((s.length : Int) < 9) = true := decide_eq_true (by omega)
theorem map_take9 : List.map ofB (List.take (Int.toNat 9) s) = (s.take 9).map ofB := rfl
theorem take9 (h : 9 ≤ s.length) : (s.take 9).length = 9 := by simp; omega
theorem g9 {i : Nat} (h : 9 ≤ s.length) (hi : i < 9) : intOf ((((s.take 9).map ofB).getD i []).getD 0 AV.junk) = bA s i := by
  rw [gB (by rw [take9 h]; exact hi), bA_take hi]
theorem two16 : (2 : Int) ^ min (Int.toNat 16) IntKind.u32.bits = 65536 := by decide
theorem two8 : (2 : Int) ^ min (Int.toNat 8) IntKind.u32.bits = 256 := by decide
theorem two24 : (2 : Int) ^ min (Int.toNat 24) IntKind.u32.bits = 16777216 := by decide
theorem join3 {x y z : Int} (hx : 0 ≤ x ∧ x ≤ 255) (hy : 0 ≤ y ∧ y ≤ 255) (hz : 0 ≤ z ∧ z ≤ 255) :
    bits .or .u32 (bits .or .u32 (IntKind.u32.wrap (IntKind.u32.wrap x * 65536)) (IntKind.u32.wrap (IntKind.u32.wrap y * 256))) (IntKind.u32.wrap z) = 65536 * x + 256 * y + z := by
  rw [wrapU x (by omega) (by omega), wrapU y (by omega) (by omega), wrapU z (by omega) (by omega), wrapU (x * 65536) (by omega) (by omega), wrapU (y * 256) (by omega) (by omega)]
  rw [or16 (x := x * 65536) (by omega) (by omega) (by omega) (by omega) (by omega), or8 (x := x * 65536 + y * 256) (by omega) (by omega) (by omega) (by omega) (by omega)]
  omega
theorem join4 {w x y z : Int} (hw : 0 ≤ w ∧ w ≤ 255) (hx : 0 ≤ x ∧ x ≤ 255) (hy : 0 ≤ y ∧ y ≤ 255) (hz : 0 ≤ z ∧ z ≤ 255) :
    bits .or .u32 (bits .or .u32 (bits .or .u32 (IntKind.u32.wrap (IntKind.u32.wrap w * 16777216)) (IntKind.u32.wrap (IntKind.u32.wrap x * 65536))) (IntKind.u32.wrap (IntKind.u32.wrap y * 256))) (IntKind.u32.wrap z) = 16777216 * w + 65536 * x + 256 * y + z := by
  rw [wrapU w (by omega) (by omega), wrapU x (by omega) (by omega), wrapU y (by omega) (by omega), wrapU z (by omega) (by omega), wrapU (w * 16777216) (by omega) (by omega), wrapU (x * 65536) (by omega) (by omega), wrapU (y * 256) (by omega) (by omega)]
  rw [or24 (x := w * 16777216) (by omega) (by omega) (by omega) (by omega) (by omega), or16 (x := w * 16777216 + x * 65536) (by omega) (by omega) (by omega) (by omega) (by omega), or8 (x := w * 16777216 + x * 65536 + y * 256) (by omega) (by omega) (by omega) (by omega) (by omega)]
  omega
theorem lt99 : decide (((9 : Nat) : Int) < 9) = false := rfl
theorem head_code (h : 9 ≤ s.length) : vev33_0 s = Ln s ∧ vev33_1 s = bA s 3 ∧ vev33_2 s = bA s 4 ∧ vev33_3 s = Sn s ∧ vev33_4 s = true := by
  have hb := bA_le s
  have hl := Ln_le s
  refine ⟨?_, ?_, ?_, ?_, ?_⟩
  · unfold vev33_0 vev14_0
    rw [lt9 h, map_take9, List.length_map, take9 h, lt99, cond_false, cond_false, g9 h (i := 0) (by omega), g9 h (i := 1) (by omega), g9 h (i := 2) (by omega), two16, two8, join3 (hb 0) (hb 1) (hb 2)]
    exact wrapOf (Ln s) (by omega) (by omega)
  · unfold vev33_1 vev14_1
    rw [lt9 h, map_take9, List.length_map, take9 h, lt99, cond_false, cond_false, g9 h (i := 3) (by omega)]
  · unfold vev33_2 vev14_2
    rw [lt9 h, map_take9, List.length_map, take9 h, lt99, cond_false, cond_false, g9 h (i := 4) (by omega)]
  · unfold vev33_3 vev14_3
    rw [lt9 h, map_take9, List.length_map, take9 h, lt99, cond_false, cond_false, g9 h (i := 5) (by omega), g9 h (i := 6) (by omega), g9 h (i := 7) (by omega), g9 h (i := 8) (by omega), two24, two16, two8, join4 (hb 5) (hb 6) (hb 7) (hb 8)]
    have h5 := hb 5
    have h6 := hb 6
    have h7 := hb 7
    have h8 := hb 8
    rw [and31 (by omega) (by omega), wrapOf _ (by omega) (by omega)]
    rfl
  · unfold vev33_4 vev14_4
    rw [lt9 h, map_take9, List.length_map, take9 h, lt99]
    rfl
theorem head_code' (h : ¬ 9 ≤ s.length) : vev33_0 s = 0 ∧ vev33_1 s = 0 ∧ vev33_2 s = 0 ∧ vev33_3 s = 0 ∧ vev33_4 s = false := by
  unfold vev33_0 vev33_1 vev33_2 vev33_3 vev33_4
  rw [lt9' h]
  exact ⟨rfl, rfl, rfl, rfl, rfl⟩
theorem head_ok (h : s.length ≤ 1000000) : vev33_5 s = true := by
  unfold vev33_5 vev14_5 bnd
  by_cases h9 : 9 ≤ s.length
  · rw [lt9 h9, map_take9, List.length_map, take9 h9, decide_eq_true (show (9 : Int) ≤ (s.length : Int) by omega)]
    have e : (List.take (Int.toNat 9) s).length = 9 := take9 h9
    rw [e]
    rfl
  · rw [lt9' h9]
    rfl
theorem head_ref (h : 9 ≤ s.length) : vev15_0 .imm (s.map ofB) = Ln s ∧ vev15_1 .imm (s.map ofB) = bA s 3 ∧ vev15_2 .imm (s.map ofB) = bA s 4 ∧ vev15_3 .imm (s.map ofB) = Sn s ∧ vev15_4 .imm (s.map ofB) = 0 ∧ vev15_5 .imm (s.map ofB) = true := by
  unfold vev15_0 vev15_1 vev15_2 vev15_3 vev15_4 vev15_5 bnd
  rw [List.length_map, lt9 h]
  simp only [cond_false]
  have e3 : (s.take 3).length = 3 := by simp; omega
  have e4 : ((s.take 9).drop 5).length = 4 := by simp; omega
  have r3 := r29 (tk := .imm) (s := s.take 3) (by omega)
  have r4 := r29 (tk := .imm) (s := (s.take 9).drop 5) (by omega)
  have m3 : List.take (Int.toNat 3) (List.map ofB s) = (s.take 3).map ofB := by rw [List.map_take]; rfl
  have m4 : List.drop (Int.toNat 5) (List.take (Int.toNat 9) (List.map ofB s)) = ((s.take 9).drop 5).map ofB := by rw [List.map_drop, List.map_take]; rfl
  rw [m3, m4, r3.1, r3.2, r4.1, r4.2, e3, e4]
  have i3 : Int.toNat 3 = 3 := rfl
  have i4 : Int.toNat 4 = 4 := rfl
  rw [i3, i4, gB (by omega), gB (by omega), decide_eq_true (show (3 : Int) ≤ (s.length : Int) by omega), decide_eq_true (show (3 : Int) < (s.length : Int) by omega), decide_eq_true (show (4 : Int) < (s.length : Int) by omega), decide_eq_true (show (9 : Int) ≤ (s.length : Int) by omega)]
  have b5 := bA_le s 5
  have b6 := bA_le s 6
  have b7 := bA_le s 7
  have b8 := bA_le s 8
  refine ⟨?f1, by first | trivial | rfl, by first | trivial | rfl, ?f4, by first | trivial | rfl, by first | trivial | rfl⟩
  case f1 =>
    simp only [numA]
    rw [bA_take (by omega), bA_take (by omega), bA_take (by omega)]
    unfold Ln
    omega
  case f4 =>
    simp only [numA, bA_drop, Nat.add_zero, Nat.reduceAdd]
    rw [bA_take (by omega), bA_take (by omega), bA_take (by omega), bA_take (by omega)]
    unfold Sn
    rw [Int.tmod_eq_emod_of_nonneg (by omega)]
    congr 1
    omega
theorem head_ref' (h : ¬ 9 ≤ s.length) : vev15_0 .imm (s.map ofB) = 0 ∧ vev15_1 .imm (s.map ofB) = 0 ∧ vev15_2 .imm (s.map ofB) = 0 ∧ vev15_3 .imm (s.map ofB) = 0 ∧ vev15_4 .imm (s.map ofB) = 3 ∧ vev15_5 .imm (s.map ofB) = true := by
  unfold vev15_0 vev15_1 vev15_2 vev15_3 vev15_4 vev15_5
  rw [List.length_map, lt9' h]
  exact ⟨rfl, rfl, rfl, rfl, rfl, rfl⟩
/-- Has a text a whole frame, or a head of one too long? -/
def whole (s : List UInt8) : Int := if s.length < 9 then 0 else if Ln s > 16384 then -1 else if (s.length : Int) < 9 + Ln s then 0 else 9 + Ln s
theorem r32 (h : s.length ≤ 1000000) : vev32_0 s = whole s ∧ vev32_1 s = true := by
  unfold vev32_0 vev32_1
  rw [decide_eq_true (show s.length ≤ 4611686018427387904 by omega)]
  have hL := Ln_le s
  unfold whole
  by_cases h9 : 9 ≤ s.length
  · obtain ⟨e0, e1, e2, e3, e4, e5⟩ := head_ref h9
    rw [e0, e4, e5, wrapOf (9 + Ln s) (by omega) (by omega), if_neg (show ¬ s.length < 9 by omega)]
    have n0 : ((0 : Int) != 0) = false := rfl
    rw [n0]
    refine ⟨?_, rfl⟩
    by_cases c1 : Ln s > 16384
    · rw [decide_eq_true c1, if_pos c1]; rfl
    · by_cases c2 : (s.length : Int) < 9 + Ln s
      · rw [decide_eq_false c1, if_neg c1, decide_eq_true c2, if_pos c2]; rfl
      · rw [decide_eq_false c1, if_neg c1, decide_eq_false c2, if_neg c2]; rfl
  · obtain ⟨e0, e1, e2, e3, e4, e5⟩ := head_ref' h9
    rw [e4, e5, if_pos (show s.length < 9 by omega)]
    exact ⟨rfl, rfl⟩
theorem whole_le : whole s ≤ (s.length : Int) := by
  unfold whole
  have hL := Ln_le s
  split
  · omega
  · split
    · omega
    · split <;> omega
theorem whole_ge (h : 0 < whole s) : 9 ≤ whole s := by
  unfold whole at h ⊢
  have hL := Ln_le s
  split
  · rename_i h1; rw [if_pos h1] at h; omega
  · rename_i h1
    rw [if_neg h1] at h
    split
    · rename_i h2; rw [if_pos h2] at h; omega
    · rename_i h2
      rw [if_neg h2] at h
      split
      · rename_i h3; rw [if_pos h3] at h; omega
      · omega
end
/-- A frame's row. -/
def rowM (s : List UInt8) : List AV := [.int .i64 (Ln s), .int .u8 (bA s 3), .int .u8 (bA s 4), .int .i64 (Sn s), .str ((s.take (whole s).toNat).drop 9)]
section
variable {g : Int} {s : List UInt8} {d : Bool}
theorem nil_eq : ((ByteArray.mk #[]).data.toList : List UInt8) = [] := rfl
theorem ck_same (h : s.length ≤ 1000000) : vev23_0 g s d = vev24_0 g s d := by
  unfold vev23_0 vev24_0
  have hw := (r32 h).1
  have e : (bif vev33_4 s then bif decide (vev33_0 s > (16384 : Int)) then true else decide ((↑s.length : Int) ≥ IntKind.i64.wrap ((9 : Int) + vev33_0 s)) else false) = (vev32_0 s != 0) := by
    rw [hw]
    have hL := Ln_le s
    unfold whole
    by_cases h9 : 9 ≤ s.length
    · obtain ⟨e0, e1, e2, e3, e4⟩ := head_code h9
      rw [e0, e4, wrapOf (9 + Ln s) (by omega) (by omega), if_neg (show ¬ s.length < 9 by omega)]
      by_cases c1 : Ln s > 16384
      · rw [decide_eq_true c1, if_pos c1]; rfl
      · by_cases c2 : (s.length : Int) < 9 + Ln s
        · rw [decide_eq_false c1, if_neg c1, if_pos c2, decide_eq_false (by omega)]; rfl
        · rw [decide_eq_false c1, if_neg c1, if_neg c2, decide_eq_true (by omega)]
          have : (9 + Ln s != 0) = true := by simp; omega
          rw [this]; rfl
    · obtain ⟨e0, e1, e2, e3, e4⟩ := head_code' h9
      rw [e4, if_pos (show s.length < 9 by omega)]; rfl
  rw [e]
  have n8 : (bif bif decide (g < (0 : Int)) then true else decide (g > (24 : Int)) then (8 : Int) else bif bif decide (g < (24 : Int)) then !s == (ByteArray.mk #[]).data.toList else false then (10 : Int) else bif vev32_0 s != 0 then (5 : Int) else (0 : Int)) = (bif decide (g < 0) then (8 : Int) else bif decide (g > 24) then (8 : Int) else bif bif decide (g < 24) then !s == (ByteArray.mk #[]).data.toList else false then (10 : Int) else bif vev32_0 s != 0 then (5 : Int) else (0 : Int)) := by
    cases decide (g < 0) <;> cases decide (g > 24) <;> rfl
  rw [n8]
theorem ck_ok (h : s.length ≤ 1000000) : vev24_1 g s d = true := by
  unfold vev24_1
  rw [(r32 h).2]
  simp only [cond_true, Bool.cond_self]
theorem left_same (h : s.length ≤ 1000000) : vev25_0 g s d = vev26_0 g s d := by
  unfold vev25_0 vev26_0
  rw [head_ok h, ck_ok h, ck_same h]
  have e : (bif d then true else bif true then vev24_0 g s d != (0 : Int) else false) = (bif true then bif vev24_0 g s d != (0 : Int) then true else d else false) := by
    cases d <;> cases (vev24_0 g s _ != (0 : Int)) <;> rfl
  rw [e]
  by_cases h9 : 9 ≤ s.length
  · rw [(head_code h9).1, (head_code h9).2.2.2.2, (head_ref h9).1, (head_ref h9).2.2.2.2.1]
    rfl
  · rw [(head_code' h9).2.2.2.2, (head_ref' h9).2.2.2.2.1]
    rfl
end
end Go.Proofs.Gv
