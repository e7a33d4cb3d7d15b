/-
The contracts of the functions that tell whether a head has flags.
-/
import Derived.Test.YtcnbeijlcndjpaaK
namespace Go.Proofs.Ytcnbeijlcndjpaa
open Go.RowKit

/-- Are all bits of a flag set? -/
def hasB (f g : Int) : Bool := bits .and .u8 f g == g
theorem has_p (l t f s g : Int) (w : World) :
    Calls Try.prog 16 #[.agg #[.int .i64 l, .int .u8 t, .int .u8 f, .int .i64 s], .int .u8 g] w fun e w' => e = .returned (.bool (hasB f g)) ∧ Below w.heap.size w w' := by
  go_enter Try.func16, Try.ntmps16
  go_wp2
  go_ret
  exact ⟨rfl, by (repeat (first | exact Below.refl _ _ | assumption | refine Below.drew ?_ | refine below_drewN ?_ _ | refine Below.alloc ?_ (by first | exact Nat.le_refl _ | omega | (simp; done) | (simp; omega)) _ | refine Below.setCell ?_ (by first | omega | (simp; done) | (simp; omega)) _))⟩
def hasL : Nat → Nat → Nat → Bool
  | 0, _, _ => true
  | k + 1, f, g => if g % 2 = 1 ∧ f % 2 = 0 then false else hasL k (f / 2) (g / 2)
theorem hasL_iff : ∀ k f g, hasL k f g = true ↔ ∀ i, i < k → g.testBit i = true → f.testBit i = true := by
  intro k
  induction k with
  | zero => intro f g; simp [hasL]
  | succ k ih =>
    intro f g
    unfold hasL
    split
    · rename_i h
      simp only [Bool.false_eq_true, false_iff]
      intro H
      have := H 0 (by omega) (by simp [Nat.testBit_zero, h.1])
      simp [Nat.testBit_zero, h.2] at this
    · rename_i h
      rw [ih]
      constructor
      · intro H i hi hg
        cases i with
        | zero => simp [Nat.testBit_zero] at hg ⊢; omega
        | succ i => rw [Nat.testBit_succ] at hg ⊢; exact H i (by omega) hg
      · intro H i hi hg
        have := H (i + 1) (by omega) (by rw [Nat.testBit_succ]; exact hg)
        rwa [Nat.testBit_succ] at this
theorem hasL_eq (f g : Nat) (hf : f ≤ 255) (hg : g ≤ 255) : hasL 8 f g = hasB f g := by
  rw [hasB, u8_and_nat f g (by omega) (by omega), Bool.eq_iff_iff, beq_iff_eq, Int.ofNat_inj, hasL_iff]
  constructor
  · intro H
    apply Nat.eq_of_testBit_eq
    intro i
    rw [Nat.testBit_and]
    by_cases hi : i < 8
    · cases e : g.testBit i
      · simp
      · simp [H i hi e]
    · have : g.testBit i = false := Nat.testBit_lt_two_pow (Nat.lt_of_lt_of_le (show g < 2 ^ 8 by omega) (Nat.pow_le_pow_right (by omega) (by omega)))
      simp [this]
  · intro H i _ hgi
    rw [← H, Nat.testBit_and] at hgi
    simp at hgi
    exact hgi.1
theorem has_r_nat (f g : Nat) (w : World) (hf : f ≤ 255) (hg : g ≤ 255) :
    Calls Try.prog 17 #[.int .u8 f, .int .u8 g] w fun e w' => e = .returned (.bool (hasL 8 f g)) ∧ w = w' := by
  go_enter Try.func17, Try.ntmps17
  go_wp2
  go_loop [0, 1, 5] (fun a b i => ∃ k p q : Nat, k ≤ 8 ∧ i = .int .i64 k ∧ a = .int .u8 p ∧ b = .int .u8 q ∧ p ≤ 255 ∧ q ≤ 255 ∧ hasL (8 - k) p q = hasL 8 f g) (fun _ _ i => 8 - (intOf i).toNat)
  case atStart => exact ⟨0, f, g, by omega, rfl, rfl, rfl, hf, hg, rfl⟩
  case round =>
    obtain ⟨k, p, q, hk, rfl, rfl, rfl, hp, hq, hl⟩ := hrel
    have HL := Lib.hid hl
    clear hl
    by_cases hlt : k < 8
    · by_cases h1 : q % 2 = 1 ∧ p % 2 = 0
      · obtain ⟨h1, h2⟩ := h1
        have h1' : ((q : Int) % 2 == 1) = true := by simp; omega
        have h2' : ((p : Int) % 2 == 0) = true := by simp; omega
        go_wp2
        go_ret
        refine ⟨?_, rfl⟩
        have h3 := HL.out
        rw [show 8 - k = (7 - k) + 1 from by omega, hasL, if_pos ⟨h1, h2⟩] at h3
        rw [← h3]
        rfl
      · have h3 := HL.out
        rw [show 8 - k = (7 - k) + 1 from by omega, hasL, if_neg h1] at h3
        have H3 := Lib.hid h3
        clear h3
        by_cases h4 : q % 2 = 1
        · have h4' : ((q : Int) % 2 == 1) = true := by simp; omega
          have h5' : ((p : Int) % 2 == 0) = false := by simp; omega
          go_wp2
          go_round
          case rel => exact ⟨k + 1, p / 2, q / 2, by omega, by go_num, by go_num, by go_num, by omega, by omega, by rw [show 8 - (k + 1) = 7 - k from by omega]; exact H3.out⟩
          case measure => simp [intOf]; omega
        · have h4' : ((q : Int) % 2 == 1) = false := by simp; omega
          go_wp2
          go_round
          case rel => exact ⟨k + 1, p / 2, q / 2, by omega, by go_num, by go_num, by go_num, by omega, by omega, by rw [show 8 - (k + 1) = 7 - k from by omega]; exact H3.out⟩
          case measure => simp [intOf]; omega
    · obtain rfl : k = 8 := by omega
      go_wp2
      go_ret
      refine ⟨?_, rfl⟩
      rw [← HL.out]
      rfl
theorem has_r (f g : Int) (w : World) (hf : 0 ≤ f) (hf' : f ≤ 255) (hg : 0 ≤ g) (hg' : g ≤ 255) :
    Calls Try.prog 17 #[.int .u8 f, .int .u8 g] w fun e w' => e = .returned (.bool (hasB f g)) ∧ w = w' := by
  obtain ⟨p, rfl⟩ := Int.eq_ofNat_of_zero_le hf
  obtain ⟨q, rfl⟩ := Int.eq_ofNat_of_zero_le hg
  rw [← hasL_eq p q (by omega) (by omega)]
  exact has_r_nat p q w (by omega) (by omega)
end Go.Proofs.Ytcnbeijlcndjpaa
