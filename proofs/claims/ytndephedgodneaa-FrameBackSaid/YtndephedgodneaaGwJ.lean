/-
Bytes of texts and the numbers they tell.
-/
import Derived.Test.YtndephedgodneaaGwI
import Derived.Test.YtndephedgodneaaGwF
import Derived.Test.YtndephedgodneaaGwG
import Derived.Laws.BitsLemmas
namespace Go.Proofs.Gv
open Go.Proofs
set_option linter.unusedVariables false
theorem wrapOf (x : Int) (h0 : -9223372036854775808 ≤ x) (h1 : x ≤ 9223372036854775807) : IntKind.i64.wrap x = x := by
  rw [IntKind.wrap_i64]; omega
theorem wrapU (x : Int) (h0 : 0 ≤ x) (h1 : x ≤ 4294967295) : IntKind.u32.wrap x = x := by
  rw [IntKind.wrap_u32]; omega
theorem wraps_u32 (n : Int) (h₀ : 0 ≤ n) (h₁ : n < 2 ^ 32) : IntKind.u32.wrap n = n := wrapU n h₀ (by omega)
theorem or8 {x y : Int} (h0 : 0 ≤ x) (h : x % 256 = 0) (h1 : x ≤ 4294967295) (h2 : 0 ≤ y) (h3 : y ≤ 255) : bits .or .u32 x y = x + y :=
  bits_join .u32 32 (by decide) wraps_u32 8 x y h0 (by omega) (by omega) h2 (by omega) (by omega)
theorem or16 {x y : Int} (h0 : 0 ≤ x) (h : x % 65536 = 0) (h1 : x ≤ 4294967295) (h2 : 0 ≤ y) (h3 : y ≤ 65535) : bits .or .u32 x y = x + y :=
  bits_join .u32 32 (by decide) wraps_u32 16 x y h0 (by omega) (by omega) h2 (by omega) (by omega)
theorem or24 {x y : Int} (h0 : 0 ≤ x) (h : x % 16777216 = 0) (h1 : x ≤ 4294967295) (h2 : 0 ≤ y) (h3 : y ≤ 16777215) : bits .or .u32 x y = x + y :=
  bits_join .u32 32 (by decide) wraps_u32 24 x y h0 (by omega) (by omega) h2 (by omega) (by omega)
theorem and31 {x : Int} (h0 : 0 ≤ x) (h1 : x ≤ 4294967295) : bits .and .u32 x 2147483647 = x % 2147483648 :=
  bits_mask .u32 32 (by decide) wraps_u32 31 (by decide) x h0 (by omega)
/-- A byte of a text. -/
def bA (s : List UInt8) (i : Nat) : Int := ((s.getD i 0).toNat : Int)
theorem bA_le (s : List UInt8) (i : Nat) : 0 ≤ bA s i ∧ bA s i ≤ 255 := by
  unfold bA
  have := (s.getD i 0).toNat_lt
  omega
theorem row_at {s : List UInt8} {i : Nat} (h : i < s.length) : (s.map ofB).getD i [] = ofB (s.getD i 0) := by
  simp [List.getD, h]
theorem gB {s : List UInt8} {i : Nat} (h : i < s.length) : intOf (((s.map ofB).getD i []).getD 0 AV.junk) = bA s i := by
  rw [row_at h]
  rfl
theorem bA_take {s : List UInt8} {i n : Nat} (h : i < n) : bA (s.take n) i = bA s i := by
  unfold bA
  simp [List.getD, h]
theorem bA_drop {s : List UInt8} {i n : Nat} : bA (s.drop n) i = bA s (n + i) := by
  unfold bA
  simp [List.getD, List.getElem?_drop]
theorem bA_app {s t : List UInt8} {i : Nat} (h : i < s.length) : bA (s ++ t) i = bA s i := by
  unfold bA
  simp [List.getD, List.getElem?_append, h]
/-- The number of bytes. -/
def numA (s : List UInt8) (n : Nat) : Int :=
  match n with
  | 0 => 0
  | n + 1 => 256 * numA s n + bA s n
theorem numA_le (s : List UInt8) : ∀ n, n ≤ 4 → 0 ≤ numA s n ∧ numA s n ≤ 4294967295 := by
  intro n hn
  have h0 := bA_le s 0
  have h1 := bA_le s 1
  have h2 := bA_le s 2
  have h3 := bA_le s 3
  have hc : n = 0 ∨ n = 1 ∨ n = 2 ∨ n = 3 ∨ n = 4 := by omega
  rcases hc with h | h | h | h | h <;> subst h <;> simp only [numA] <;> omega
theorem two8 : (2 : Int) ^ min (Int.toNat 8) IntKind.u32.bits = 256 := by decide
theorem numA_congr {s t : List UInt8} : ∀ n, (∀ i, i < n → bA s i = bA t i) → numA s n = numA t n := by
  intro n
  induction n with
  | zero => intro _; rfl
  | succ n ih =>
    intro h
    simp only [numA]
    rw [ih (fun i hi => h i (by omega)), h n (by omega)]
end Go.Proofs.Gv
