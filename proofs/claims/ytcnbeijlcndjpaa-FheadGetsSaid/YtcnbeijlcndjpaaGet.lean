/-
The contracts of the functions that read a head, and of its flags.
-/
import Derived.Test.YtcnbeijlcndjpaaHead
namespace Go.Proofs.Ytcnbeijlcndjpaa
open Go.RowKit

theorem nine {l : List UInt8} (h : 9 ≤ l.length) : ∃ x0 x1 x2 x3 x4 x5 x6 x7 x8 r, l = x0 :: x1 :: x2 :: x3 :: x4 :: x5 :: x6 :: x7 :: x8 :: r := by
  match l, h with
  | x0 :: x1 :: x2 :: x3 :: x4 :: x5 :: x6 :: x7 :: x8 :: r, _ => exact ⟨x0, x1, x2, x3, x4, x5, x6, x7, x8, r, rfl⟩
theorem byte_lt (x : UInt8) : (0 : Int) ≤ (x.toNat : Int) ∧ (x.toNat : Int) ≤ 255 := by
  have := x.toNat_lt
  omega

theorem wrapsU32 (n : Int) (h₀ : 0 ≤ n) (h₁ : n < 2 ^ 32) : IntKind.u32.wrap n = n := by rw [IntKind.wrap_u32]; omega
theorem or32 (i : Nat) (x y : Int) (h0 : 0 ≤ x) (hx : x % 2 ^ i = 0) (h1 : x < 4294967296) (h2 : 0 ≤ y) (h3 : y < 2 ^ i) (h4 : y < 4294967296) : bits .or .u32 x y = x + y :=
  bits_join .u32 32 (by decide) wrapsU32 i x y h0 hx h1 h2 h3 h4
theorem and31 (x : Int) (h0 : 0 ≤ x) (h1 : x < 4294967296) : bits .and .u32 x 2147483647 = x % 2147483648 :=
  bits_mask .u32 32 (by decide) wrapsU32 31 (by decide) x h0 h1

/-- A head read off bytes: its four fields. -/
def hd : List UInt8 → Int × Int × Int × Int
  | x0 :: x1 :: x2 :: x3 :: x4 :: x5 :: x6 :: x7 :: x8 :: _ => ((x0.toNat : Int) * 65536 + (x1.toNat : Int) * 256 + (x2.toNat : Int), (x3.toNat : Int), (x4.toNat : Int), ((x5.toNat : Int) * 16777216 + (x6.toNat : Int) * 65536 + (x7.toNat : Int) * 256 + (x8.toNat : Int)) % 2147483648)
  | _ => (0, 0, 0, 0)
def hdV (l : List UInt8) : Value := .agg #[.int .i64 (hd l).1, .int .u8 (hd l).2.1, .int .u8 (hd l).2.2.1, .int .i64 (hd l).2.2.2]
def hdE (l : List UInt8) : Int := if l.length < 9 then 3 else 0
theorem hd_short {l : List UInt8} (h : l.length < 9) : hd l = (0, 0, 0, 0) := by
  unfold hd
  split
  · simp at h; omega
  · rfl
theorem hd_bounds (l : List UInt8) : 0 ≤ (hd l).1 ∧ (hd l).1 ≤ 16777215 ∧ 0 ≤ (hd l).2.1 ∧ (hd l).2.1 ≤ 255 ∧ 0 ≤ (hd l).2.2.1 ∧ (hd l).2.2.1 ≤ 255 ∧ 0 ≤ (hd l).2.2.2 ∧ (hd l).2.2.2 ≤ 2147483647 := by
  by_cases h : l.length < 9
  · rw [hd_short h]; simp
  · obtain ⟨x0, x1, x2, x3, x4, x5, x6, x7, x8, r, rfl⟩ := nine (l := l) (by omega)
    have := byte_lt x0; have := byte_lt x1; have := byte_lt x2; have := byte_lt x3; have := byte_lt x4
    simp only [hd]
    omega

theorem get_p9 (b o n c : Nat) (x0 x1 x2 x3 x4 x5 x6 x7 x8 : Int) (w : World) (hn : 9 ≤ n) (hc : n ≤ 9223372036854775807) (hb : b < w.heap.size)
    (h0 : w.cell? ⟨b, o, none⟩ = some (.int .u8 x0)) (h1 : w.cell? ⟨b, o + 1, none⟩ = some (.int .u8 x1)) (h2 : w.cell? ⟨b, o + 2, none⟩ = some (.int .u8 x2))
    (h3 : w.cell? ⟨b, o + 3, none⟩ = some (.int .u8 x3)) (h4 : w.cell? ⟨b, o + 4, none⟩ = some (.int .u8 x4)) (h5 : w.cell? ⟨b, o + 5, none⟩ = some (.int .u8 x5))
    (h6 : w.cell? ⟨b, o + 6, none⟩ = some (.int .u8 x6)) (h7 : w.cell? ⟨b, o + 7, none⟩ = some (.int .u8 x7)) (h8 : w.cell? ⟨b, o + 8, none⟩ = some (.int .u8 x8))
    (b0 : 0 ≤ x0 ∧ x0 ≤ 255) (b1 : 0 ≤ x1 ∧ x1 ≤ 255) (b2 : 0 ≤ x2 ∧ x2 ≤ 255) (b5 : 0 ≤ x5 ∧ x5 ≤ 255) (b6 : 0 ≤ x6 ∧ x6 ≤ 255) (b7 : 0 ≤ x7 ∧ x7 ≤ 255) (b8 : 0 ≤ x8 ∧ x8 ≤ 255) :
    Calls Try.prog 14 #[.slice (some ⟨b, o, none⟩) n c] w fun e w' => e = .returned (.tuple #[.agg #[.int .i64 (x0 * 65536 + x1 * 256 + x2), .int .u8 x3, .int .u8 x4, .int .i64 ((x5 * 16777216 + x6 * 65536 + x7 * 256 + x8) % 2147483648)], .int .i64 0]) ∧ Below w.heap.size w w' := by
  have har := fun w => run_arrayAt (P := Try.prog) (w := w) 69 5 9 (some ⟨b, o, none⟩) n c Try.underlying69 hn
  have e1 := or32 16 (x0 * 65536) (x1 * 256) (by omega) (by omega) (by omega) (by omega) (by omega) (by omega)
  have e2 := or32 8 (x0 * 65536 + x1 * 256) x2 (by omega) (by omega) (by omega) (by omega) (by omega) (by omega)
  have e3 := or32 24 (x5 * 16777216) (x6 * 65536) (by omega) (by omega) (by omega) (by omega) (by omega) (by omega)
  have e4 := or32 16 (x5 * 16777216 + x6 * 65536) (x7 * 256) (by omega) (by omega) (by omega) (by omega) (by omega) (by omega)
  have e5 := or32 8 (x5 * 16777216 + x6 * 65536 + x7 * 256) x8 (by omega) (by omega) (by omega) (by omega) (by omega) (by omega)
  have e6 := and31 (x5 * 16777216 + x6 * 65536 + x7 * 256 + x8) (by omega) (by omega)
  go_enter Try.func14, Try.ntmps14
  go_wp2
  refine bodyPost_ret (v := .tuple #[.agg #[.int .i64 (x0 * 65536 + x1 * 256 + x2), .int .u8 x3, .int .u8 x4, .int .i64 ((x5 * 16777216 + x6 * 65536 + x7 * 256 + x8) % 2147483648)], .int .i64 0]) (by simp [results, Try.results14, go_sem]) rfl ?_
  refine ⟨rfl, ?_⟩
  (repeat (first | exact Below.refl _ _ | assumption | refine Below.drew ?_ | refine below_drewN ?_ _ | refine Below.alloc ?_ (by first | exact Nat.le_refl _ | omega | (simp; done) | (simp; omega)) _ | refine Below.setCell ?_ (by first | omega | (simp; done) | (simp; omega)) _))
/-- Get of the program. -/
def GetPost (w : World) (l : List UInt8) (e : Ending) (w' : World) : Prop := e = .returned (.tuple #[hdV l, .int .i64 (hdE l)]) ∧ Below w.heap.size w w'
theorem get_p_short (A : Option Addr) (n c : Nat) (w : World) (hn : n < 9) :
    Calls Try.prog 14 #[.slice A n c] w fun e w' => e = .returned (.tuple #[.agg #[.int .i64 0, .int .u8 0, .int .u8 0, .int .i64 0], .int .i64 3]) ∧ Below w.heap.size w w' := by
  go_enter Try.func14, Try.ntmps14
  go_wp2
  refine bodyPost_ret (v := .tuple #[.agg #[.int .i64 0, .int .u8 0, .int .u8 0, .int .i64 0], .int .i64 3]) (by simp [results, Try.results14, go_sem]) rfl ?_
  refine ⟨rfl, ?_⟩
  (repeat (first | exact Below.refl _ _ | assumption | refine Below.drew ?_ | refine below_drewN ?_ _ | refine Below.alloc ?_ (by first | exact Nat.le_refl _ | omega | (simp; done) | (simp; omega)) _ | refine Below.setCell ?_ (by first | omega | (simp; done) | (simp; omega)) _))
theorem get_p (A : Option Addr) (n c : Nat) (l : List UInt8) (w : World) (hs : Sl eByte 1 w A n l) (hc : n ≤ 9223372036854775807) :
    Calls Try.prog 14 #[.slice A n c] w (GetPost w l) := by
  by_cases h : n < 9
  · have hl : l.length < 9 := by rw [hs.1]; exact h
    refine (get_p_short A n c w h).mono ?_
    rintro e w' ⟨rfl, hb⟩
    exact ⟨by simp [hdV, hd_short hl, hdE, hl], hb⟩
  · have hl : 9 ≤ l.length := by rw [hs.1]; omega
    obtain ⟨x0, x1, x2, x3, x4, x5, x6, x7, x8, r, rfl⟩ := nine hl
    obtain ⟨b, o, rfl, hb, _⟩ := hs.2 (by omega)
    have hq := fun i hi => hs.byte (i := i) hi
    refine (get_p9 b o n c x0.toNat x1.toNat x2.toNat x3.toNat x4.toNat x5.toNat x6.toNat x7.toNat x8.toNat w (by omega) hc hb (hq 0 (by omega)) (hq 1 (by omega)) (hq 2 (by omega)) (hq 3 (by omega)) (hq 4 (by omega)) (hq 5 (by omega)) (hq 6 (by omega)) (hq 7 (by omega)) (hq 8 (by omega))
      (byte_lt _) (byte_lt _) (byte_lt _) (byte_lt _) (byte_lt _) (byte_lt _) (byte_lt _)).mono ?_
    rintro e w' ⟨rfl, hb⟩
    exact ⟨by simp [hdV, hd, hdE], hb⟩

/-- The number that bytes tell. -/
def num (l : List UInt8) : Int := l.foldl (fun n b => 256 * n + (b.toNat : Int)) 0
theorem num_snoc (l : List UInt8) (b : UInt8) : num (l ++ [b]) = 256 * num l + (b.toNat : Int) := by simp [num]
theorem num_bounds : ∀ (k : Nat) (l : List UInt8), l.length = k → 0 ≤ num l ∧ num l < 256 ^ k := by
  intro k
  induction k with
  | zero => intro l h; have : l = [] := List.eq_nil_of_length_eq_zero h; subst this; simp [num]
  | succ k ih =>
    intro l h
    obtain ⟨l', b, rfl⟩ : ∃ l' b, l = l' ++ [b] := ⟨l.dropLast, l.getLast (by intro h0; simp [h0] at h), (List.dropLast_concat_getLast _).symm⟩
    have h1 := ih l' (by simpa using h)
    have h2 := byte_lt b
    rw [num_snoc, Int.pow_succ]
    omega
theorem pow256 (k : Nat) (h : k ≤ 6) : (256 : Int) ^ k ≤ 281474976710656 := by
  have h : k = 0 ∨ k = 1 ∨ k = 2 ∨ k = 3 ∨ k = 4 ∨ k = 5 ∨ k = 6 := by omega
  rcases h with rfl | rfl | rfl | rfl | rfl | rfl | rfl <;> decide
theorem num_r (A : Option Addr) (n c : Nat) (l : List UInt8) (w : World) (hs : Sl eByte 1 w A n l) (hn : n ≤ 7) :
    Calls Try.prog 29 #[.slice A n c] w fun e w' => e = .returned (.int .i64 (num l)) ∧ w = w' := by
  go_enter Try.func29, Try.ntmps29
  go_wp2
  go_loop [3, 4] (fun t i => ∃ k : Nat, k ≤ n ∧ i = .int .i64 k ∧ t = .int .i64 (num (l.take k))) (fun _ i => n - (intOf i).toNat)
  case atStart => exact ⟨0, by omega, rfl, rfl⟩
  case round =>
    obtain ⟨k, hk, rfl, rfl⟩ := hrel
    by_cases hlt : k < n
    · obtain ⟨b, o, rfl, hb, _⟩ := hs.at_ hlt
      have hcell := hs.byte hlt
      have hkl : k < l.length := by have := hs.1; omega
      have hb1 := num_bounds k (l.take k) (by simp; omega)
      have hpow := pow256 k (by omega)
      have hup : num (l.take k) < 281474976710656 := by omega
      have hlow := hb1.1
      have hbyte := byte_lt (l.getD k 0)
      have hsn : num (l.take (k + 1)) = 256 * num (l.take k) + ((l.getD k 0).toNat : Int) := by
        rw [List.take_succ_eq_append_getElem hkl, num_snoc]
        simp [List.getD, hkl]
      have HS := Lib.hid hsn
      clear hsn hb1 hpow
      generalize num (l.take k) = q at *
      generalize ((l.getD k 0).toNat : Int) = x at *
      go_wp2
      go_round
      case rel => exact ⟨k + 1, by omega, by go_num, by rw [HS.out]⟩
      case measure => simp [intOf]; omega
    · obtain rfl : k = n := by omega
      go_wp2
      go_ret
      exact ⟨by rw [List.take_of_length_le (by rw [hs.1]; exact Nat.le_refl _)]; rfl, rfl⟩

theorem get_r_short (A : Option Addr) (n c : Nat) (w : World) (hn : n < 9) :
    Calls Try.prog 15 #[.slice A n c] w fun e w' => e = .returned (.tuple #[.agg #[.int .i64 0, .int .u8 0, .int .u8 0, .int .i64 0], .int .i64 3]) ∧ Below w.heap.size w w' := by
  go_enter Try.func15, Try.ntmps15
  go_wp2
  refine bodyPost_ret (v := .tuple #[.agg #[.int .i64 0, .int .u8 0, .int .u8 0, .int .i64 0], .int .i64 3]) (by simp [results, Try.results15, go_sem]) rfl ?_
  refine ⟨rfl, ?_⟩
  (repeat (first | exact Below.refl _ _ | assumption | refine Below.drew ?_ | refine below_drewN ?_ _ | refine Below.alloc ?_ (by first | exact Nat.le_refl _ | omega | (simp; done) | (simp; omega)) _ | refine Below.setCell ?_ (by first | omega | (simp; done) | (simp; omega)) _))
theorem get_r9 (b o n c : Nat) (l : List UInt8) (x3 x4 q : Int) (w : World) (hs : Sl eByte 1 w (some ⟨b, o, none⟩) n l) (hn : 9 ≤ n) (hnc : n ≤ c) (hc : c ≤ 9223372036854775807) (hb : b < w.heap.size)
    (h3 : w.cell? ⟨b, o + 3, none⟩ = some (.int .u8 x3)) (h4 : w.cell? ⟨b, o + 4, none⟩ = some (.int .u8 x4)) (hq : num ((l.drop 5).take 4) = q) (hq0 : 0 ≤ q) (hq1 : q ≤ 4294967295) :
    Calls Try.prog 15 #[.slice (some ⟨b, o, none⟩) n c] w fun e w' => e = .returned (.tuple #[.agg #[.int .i64 (num (l.take 3)), .int .u8 x3, .int .u8 x4, .int .i64 (q % 2147483648)], .int .i64 0]) ∧ Below w.heap.size w w' := by
  have HQ := Lib.hid hq
  clear hq
  have hne : ¬ c = 5 := by omega
  have hi3 : (3 : Int) < (n : Int) := by omega
  have hi4 : (4 : Int) < (n : Int) := by omega
  have hi9 : (9 : Int) ≤ (c : Int) := by omega
  have hi0 : (3 : Int) ≤ (c : Int) := by omega
  go_enter Try.func15, Try.ntmps15
  go_wp2
  have hsA : Sl eByte 1 w (some ⟨b, o, none⟩) 3 (l.take 3) := by simpa using hs.sub 0 3 (by omega)
  have hsB : Sl eByte 1 w (some ⟨b, o + 5, none⟩) 4 ((l.drop 5).take 4) := hs.sub 5 4 (by omega)
  go_region_held3 (fun w' => Below w.heap.size w w' ∧ ∀ b o, b < w.heap.size → w'.cell? ⟨b, o, none⟩ = w.cell? ⟨b, o, none⟩) ((refine keepS ?_; repeat (first | (with_reducible exact Below.refl _ _) | (with_reducible assumption) | (with_reducible exact (‹Below _ _ _ ∧ _›).1) | (with_reducible refine Below.drew ?_) | (with_reducible refine Below.alloc ?_ ?_ _; rotate_left; (first | exact Nat.le_refl _ | omega | (simp; done) | (simp; omega) | exact (‹Below _ _ _ ∧ _›).1.size | (have hzz := (‹Below _ _ _ ∧ _›).1.size; simp at hzz; simp; omega))) | (with_reducible refine Below.setCell ?_ ?_ _; rotate_left; (first | exact Nat.le_refl _ | omega | (simp; done) | (simp; omega) | exact (‹Below _ _ _ ∧ _›).1.size | (have hzz := (‹Below _ _ _ ∧ _›).1.size; simp at hzz; simp; omega))) | (with_reducible refine bstep_at (by assumption) (‹Below _ _ _ ∧ _›).1 (‹Below _ _ _ ∧ _›).1.size))))
    ((first
     | (go_at_call 29; (with_reducible refine (num_r _ _ _ _ _ (Sl.below hsA (‹Below _ _ _ ∧ _›).1) ?_).mono ?_); omega; rintro e w' ⟨rfl, rfl⟩)
     | (go_at_call 29; (with_reducible refine (num_r _ _ _ _ _ (Sl.below hsB (‹Below _ _ _ ∧ _›).1) ?_).mono ?_); omega; rw [HQ.out]; rintro e w' ⟨rfl, rfl⟩)
     | fail))
  go_wp2
  have hb1 := (‹Below _ _ _ ∧ _›).1
  have ht : q.tmod 2147483648 = q % 2147483648 := Int.tmod_eq_emod_of_nonneg hq0
  rw [ht] at hb1 ⊢
  refine bodyPost_ret (v := .tuple #[.agg #[.int .i64 (num (l.take 3)), .int .u8 x3, .int .u8 x4, .int .i64 (q % 2147483648)], .int .i64 0]) (by simp [results, Try.results15, go_sem]) rfl ?_
  exact ⟨rfl, hb1⟩
theorem get_r (A : Option Addr) (n c : Nat) (l : List UInt8) (w : World) (hs : Sl eByte 1 w A n l) (hnc : n ≤ c) (hc : c ≤ 9223372036854775807) :
    Calls Try.prog 15 #[.slice A n c] w (GetPost w l) := by
  by_cases h : n < 9
  · have hl : l.length < 9 := by rw [hs.1]; exact h
    refine (get_r_short A n c w h).mono ?_
    rintro e w' ⟨rfl, hb⟩
    exact ⟨by simp [hdV, hd_short hl, hdE, hl], hb⟩
  · have hl : 9 ≤ l.length := by rw [hs.1]; omega
    obtain ⟨x0, x1, x2, x3, x4, x5, x6, x7, x8, r, rfl⟩ := nine hl
    obtain ⟨b, o, rfl, hb, _⟩ := hs.2 (by omega)
    have hq := fun i hi => hs.byte (i := i) hi
    have hb5 := num_bounds 4 [x5, x6, x7, x8] rfl
    refine (get_r9 b o n c _ x3.toNat x4.toNat (num [x5, x6, x7, x8]) w hs (by omega) hnc hc hb (hq 3 (by omega)) (hq 4 (by omega)) rfl hb5.1 (by omega)).mono ?_
    rintro e w' ⟨rfl, hb⟩
    refine ⟨?_, hb⟩
    have e1 : num (List.take 3 (x0 :: x1 :: x2 :: x3 :: x4 :: x5 :: x6 :: x7 :: x8 :: r)) = (x0.toNat : Int) * 65536 + (x1.toNat : Int) * 256 + (x2.toNat : Int) := by simp [num]; omega
    have e2 : num [x5, x6, x7, x8] = (x5.toNat : Int) * 16777216 + (x6.toNat : Int) * 65536 + (x7.toNat : Int) * 256 + (x8.toNat : Int) := by simp [num]; omega
    rw [e1, e2]
    simp [hdV, hd, hdE]

end Go.Proofs.Ytcnbeijlcndjpaa
