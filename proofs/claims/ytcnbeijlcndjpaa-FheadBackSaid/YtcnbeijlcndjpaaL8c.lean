/-
The walk of the statement FheadBack: whatever the head and the bytes behind it, it answers true and turns nothing that was there.
-/
import Derived.Test.YtcnbeijlcndjpaaAwake8
import Derived.Test.YtcnbeijlcndjpaaRdHead
namespace Go.Proofs.Ytcnbeijlcndjpaa
open Go.RowKit

theorem fheadBack_no (l t f s : Int) (A : Option Addr) (n c : Nat) (w : World) (h : l < 0 ∨ 16777215 < l ∨ s < 0 ∨ 2147483647 < s) (ht : 0 ≤ t) (ht' : t ≤ 255) (hf : 0 ≤ f) (hf' : f ≤ 255) :
    Calls Try.prog 5 #[.agg #[.int .i64 l, .int .u8 t, .int .u8 f, .int .i64 s], .slice A n c] w fun e w' => e = .returned (.bool true) ∧ Below w.heap.size w w' := by
  have hc : hchk l s = 8 := by simp [hchk, h]
  have HC := Lib.hid hc
  clear hc
  have H := Lib.hid h
  clear h
  go_enter Try.func5, Try.ntmps5
  go_wp2_with fail
  refine (put_p_no _ _ _ _ _ H.out).mono ?_
  rintro e w1 ⟨A1, n1, c1, rfl, hs1, _, _, _, hb1⟩
  rw [HC.out] at hs1 ⊢
  have hn1 := hs1.1
  obtain rfl : n1 = 0 := by simpa using hn1.symm
  have hx1 := (Box.new (w.alloc (.cells #[.int .i64 l, .int .u8 t, .int .u8 f, .int .i64 s] 23)) #[.int .i64 l, .int .u8 t, .int .u8 f, .int .i64 s] 28).below hb1
  have hB1 := bstep hb1 (w := w) (by (repeat (first | exact Below.refl _ _ | assumption | refine Below.drew ?_ | refine below_drewN ?_ _ | refine Below.alloc ?_ (by first | exact Nat.le_refl _ | omega | (simp; done) | (simp; omega)) _ | refine Below.setCell ?_ (by first | omega | (simp; done) | (simp; omega)) _))); have hz1 := hb1.size; (try simp only [World.size_alloc, World.heap_drewN, World.size_setCell, heap_drew, Nat.add_one_le_iff] at hz1)
  clear hb1
  simp only [World.size_alloc] at hx1
  have hx1' := hx1.2
  go_wp2_with fail
  refine (check_p _ _ _ _ _).mono ?_
  rintro e w2 ⟨rfl, hb2⟩
  rw [HC.out]
  have hC2 := bstep hb2 (w := w1) (by (repeat (first | exact Below.refl _ _ | assumption | refine Below.drew ?_ | refine below_drewN ?_ _ | refine Below.alloc ?_ (by first | exact Nat.le_refl _ | omega | (simp; done) | (simp; omega)) _ | refine Below.setCell ?_ (by first | omega | (simp; done) | (simp; omega)) _))); have hB2 := bstep hC2 hB1; have hz2 := hb2.size; (try simp only [World.size_alloc, World.heap_drewN, World.size_setCell, heap_drew, Nat.add_one_le_iff] at hz2); clear hb2
  go_wp2_with fail
  refine (awake8 _).mono ?_
  rintro e w3 ⟨rfl, hb3⟩
  have hC3 := bstep hb3 (w := w2) (by (repeat (first | exact Below.refl _ _ | assumption | refine Below.drew ?_ | refine below_drewN ?_ _ | refine Below.alloc ?_ (by first | exact Nat.le_refl _ | omega | (simp; done) | (simp; omega)) _ | refine Below.setCell ?_ (by first | omega | (simp; done) | (simp; omega)) _))); have hB3 := bstep hC3 hB2; have hz3 := hb3.size; (try simp only [World.size_alloc, World.heap_drewN, World.size_setCell, heap_drew, Nat.add_one_le_iff] at hz3); clear hb3
  go_wp2_with fail
  go_ret
  exact ⟨rfl, hB3⟩

theorem hd_hbs (l t f s : Int) (r : List UInt8) (h1 : 0 ≤ l) (h2 : l ≤ 16777215) (h3 : 0 ≤ s) (h4 : s ≤ 2147483647) (ht : 0 ≤ t) (ht' : t ≤ 255) (hf : 0 ≤ f) (hf' : f ≤ 255) : hd (hbs l t f s ++ r) = (l, t, f, s) := by
  simp only [hbs, List.cons_append, hd]
  rw [b8_toNat _ (by omega), b8_toNat _ (by omega), b8_toNat _ (by omega), b8_toNat _ (by omega), b8_toNat _ (by omega), b8_toNat _ (by omega), b8_toNat _ (by omega), b8_toNat _ (by omega), b8_toNat _ (by omega)]
  have e1 : l / 65536 * 65536 + l / 256 % 256 * 256 + l % 256 = l := by omega
  have e2 : (s / 16777216 * 16777216 + s / 65536 % 256 * 65536 + s / 256 % 256 * 256 + s % 256) % 2147483648 = s := by omega
  rw [e1, e2]
theorem hdV_hbs (l t f s : Int) (r : List UInt8) (h1 : 0 ≤ l) (h2 : l ≤ 16777215) (h3 : 0 ≤ s) (h4 : s ≤ 2147483647) (ht : 0 ≤ t) (ht' : t ≤ 255) (hf : 0 ≤ f) (hf' : f ≤ 255) : hdV (hbs l t f s ++ r) = .agg #[.int .i64 l, .int .u8 t, .int .u8 f, .int .i64 s] := by
  rw [hdV, hd_hbs l t f s r h1 h2 h3 h4 ht ht' hf hf']
theorem hdE_hbs (l t f s : Int) (r : List UInt8) : hdE (hbs l t f s ++ r) = 0 := by simp [hdE, hbs]; omega
/-- The bytes with the highest bit of the stream's number set. -/
def hbsH (l t f s : Int) : List UInt8 := [b8 (l / 65536), b8 (l / 256 % 256), b8 (l % 256), b8 t, b8 f, b8 (s / 16777216 + 128), b8 (s / 65536 % 256), b8 (s / 256 % 256), b8 (s % 256)]
theorem hdV_hbsH (l t f s : Int) (h1 : 0 ≤ l) (h2 : l ≤ 16777215) (h3 : 0 ≤ s) (h4 : s ≤ 2147483647) (ht : 0 ≤ t) (ht' : t ≤ 255) (hf : 0 ≤ f) (hf' : f ≤ 255) : hdV (hbsH l t f s) = .agg #[.int .i64 l, .int .u8 t, .int .u8 f, .int .i64 s] := by
  have h : hd (hbsH l t f s) = (l, t, f, s) := by
    simp only [hbsH, hd]
    rw [b8_toNat _ (by omega), b8_toNat _ (by omega), b8_toNat _ (by omega), b8_toNat _ (by omega), b8_toNat _ (by omega), b8_toNat _ (by omega), b8_toNat _ (by omega), b8_toNat _ (by omega), b8_toNat _ (by omega)]
    have e1 : l / 65536 * 65536 + l / 256 % 256 * 256 + l % 256 = l := by omega
    have e2 : ((s / 16777216 + 128) * 16777216 + s / 65536 % 256 * 65536 + s / 256 % 256 * 256 + s % 256) % 2147483648 = s := by omega
    rw [e1, e2]
  rw [hdV, h]
theorem hbsH_cells (l t f s : Int) (h3 : 0 ≤ s) (h4 : s ≤ 2147483647) : ((hbs l t f s).flatMap eByte).toArray.setIfInBounds 5 (.int .u8 (s / 16777216 + 128)) = ((hbsH l t f s).flatMap eByte).toArray := by
  simp [hbs, hbsH, eByte]
  exact (b8_toNat _ (by omega)).symm
theorem hasB_self (f : Int) (hf : 0 ≤ f) (hf' : f ≤ 255) : hasB f f = true := by
  obtain ⟨p, rfl⟩ := Int.eq_ofNat_of_zero_le hf
  rw [hasB, u8_and_nat p p (by omega) (by omega)]
  simp
theorem hasB_zero (f : Int) (hf : 0 ≤ f) (hf' : f ≤ 255) : hasB f 0 = true := by
  obtain ⟨p, rfl⟩ := Int.eq_ofNat_of_zero_le hf
  have := u8_and_nat p 0 (by omega) (by omega)
  simp at this
  rw [hasB, this]
  simp
theorem fheadBack_long (l t f s : Int) (A : Option Addr) (n c : Nat) (w : World) (h1 : 0 ≤ l) (h2 : l ≤ 16777215) (h3 : 0 ≤ s) (h4 : s ≤ 2147483647) (ht : 0 ≤ t) (ht' : t ≤ 255) (hf : 0 ≤ f) (hf' : f ≤ 255) (hn : 30 < n) :
    Calls Try.prog 5 #[.agg #[.int .i64 l, .int .u8 t, .int .u8 f, .int .i64 s], .slice A n c] w fun e w' => e = .returned (.bool true) ∧ Below w.heap.size w w' := by
  have hc : hchk l s = 0 := by simp [hchk]; omega
  have HC := Lib.hid hc
  clear hc
  go_enter Try.func5, Try.ntmps5
  go_wp2_with fail
  refine (put_p_arr _ _ _ _ _ h1 h2 h3 h4 ht ht' hf hf').mono ?_
  rintro e w1 ⟨g, rfl, hg, hglo, hb1⟩
  have hx1 := (Box.new (w.alloc (.cells #[.int .i64 l, .int .u8 t, .int .u8 f, .int .i64 s] 23)) #[.int .i64 l, .int .u8 t, .int .u8 f, .int .i64 s] 28).below hb1
  have hB1 := bstep hb1 (w := w) (by (repeat (first | exact Below.refl _ _ | assumption | refine Below.drew ?_ | refine below_drewN ?_ _ | refine Below.alloc ?_ (by first | exact Nat.le_refl _ | omega | (simp; done) | (simp; omega)) _ | refine Below.setCell ?_ (by first | omega | (simp; done) | (simp; omega)) _))); have hz1 := hb1.size; (try simp only [World.size_alloc, World.heap_drewN, World.size_setCell, heap_drew, Nat.add_one_le_iff] at hz1)
  clear hb1
  simp only [World.size_alloc] at hx1
  have hx1' := hx1.2
  go_wp2_with fail
  refine (check_p _ _ _ _ _).mono ?_
  rintro e w2 ⟨rfl, hb2⟩
  rw [HC.out]
  have hC2 := bstep hb2 (w := w1) (by (repeat (first | exact Below.refl _ _ | assumption | refine Below.drew ?_ | refine below_drewN ?_ _ | refine Below.alloc ?_ (by first | exact Nat.le_refl _ | omega | (simp; done) | (simp; omega)) _ | refine Below.setCell ?_ (by first | omega | (simp; done) | (simp; omega)) _))); have hB2 := bstep hC2 hB1; have hz2 := hb2.size; (try simp only [World.size_alloc, World.heap_drewN, World.size_setCell, heap_drew, Nat.add_one_le_iff] at hz2); clear hb2
  go_wp2_with fail
  refine (awake8 _).mono ?_
  rintro e w3 ⟨rfl, hb3⟩
  have hC3 := bstep hb3 (w := w2) (by (repeat (first | exact Below.refl _ _ | assumption | refine Below.drew ?_ | refine below_drewN ?_ _ | refine Below.alloc ?_ (by first | exact Nat.le_refl _ | omega | (simp; done) | (simp; omega)) _ | refine Below.setCell ?_ (by first | omega | (simp; done) | (simp; omega)) _))); have hB3 := bstep hC3 hB2; have hz3 := hb3.size; (try simp only [World.size_alloc, World.heap_drewN, World.size_setCell, heap_drew, Nat.add_one_le_iff] at hz3); clear hb3
  go_wp2_with fail
  go_ret
  exact ⟨rfl, hB3⟩
theorem fheadBack_ok (l t f s : Int) (A : Option Addr) (n c : Nat) (lt : List UInt8) (w : World) (hs : Sl eByte 1 w A n lt) (h1 : 0 ≤ l) (h2 : l ≤ 16777215) (h3 : 0 ≤ s) (h4 : s ≤ 2147483647) (ht : 0 ≤ t) (ht' : t ≤ 255) (hf : 0 ≤ f) (hf' : f ≤ 255) (hn : n ≤ 30) :
    Calls Try.prog 5 #[.agg #[.int .i64 l, .int .u8 t, .int .u8 f, .int .i64 s], .slice A n c] w fun e w' => e = .returned (.bool true) ∧ Below w.heap.size w w' := by
  obtain ⟨i0, hi, hz0, hz1', hz2'⟩ := info_parts info_u8
  have hc : hchk l s = 0 := by simp [hchk]; omega
  have HC := Lib.hid hc
  clear hc
  go_enter Try.func5, Try.ntmps5
  go_wp2_with fail
  refine (put_p_arr _ _ _ _ _ h1 h2 h3 h4 ht ht' hf hf').mono ?_
  rintro e w1 ⟨g, rfl, hg, hglo, hb1⟩
  have hx1 := (Box.new (w.alloc (.cells #[.int .i64 l, .int .u8 t, .int .u8 f, .int .i64 s] 23)) #[.int .i64 l, .int .u8 t, .int .u8 f, .int .i64 s] 28).below hb1
  have hB1 := bstep hb1 (w := w) (by (repeat (first | exact Below.refl _ _ | assumption | refine Below.drew ?_ | refine below_drewN ?_ _ | refine Below.alloc ?_ (by first | exact Nat.le_refl _ | omega | (simp; done) | (simp; omega)) _ | refine Below.setCell ?_ (by first | omega | (simp; done) | (simp; omega)) _))); have hz1 := hb1.size; (try simp only [World.size_alloc, World.heap_drewN, World.size_setCell, heap_drew, Nat.add_one_le_iff] at hz1)
  clear hb1
  simp only [World.size_alloc] at hx1 hglo
  have hx1' := hx1.2
  go_wp2_with fail
  refine (check_p _ _ _ _ _).mono ?_
  rintro e w2 ⟨rfl, hb2⟩
  rw [HC.out]
  have hC2 := bstep hb2 (w := w1) (by (repeat (first | exact Below.refl _ _ | assumption | refine Below.drew ?_ | refine below_drewN ?_ _ | refine Below.alloc ?_ (by first | exact Nat.le_refl _ | omega | (simp; done) | (simp; omega)) _ | refine Below.setCell ?_ (by first | omega | (simp; done) | (simp; omega)) _))); have hB2 := bstep hC2 hB1; have hz2 := hb2.size; (try simp only [World.size_alloc, World.heap_drewN, World.size_setCell, heap_drew, Nat.add_one_le_iff] at hz2); clear hb2
  have hglt : g < w1.heap.size := (Array.getElem?_eq_some_iff.1 hg).1
  have hg2 := (hC2.block g hglt).trans hg
  have hx2 := hx1.below hC2
  have hs2 := hs.below hB2
  have hb0 : Own eByte 1 w2.heap.size 5 (w2.alloc (.cells #[] 5)) (.slice (some ⟨w2.heap.size, 0, none⟩) 0 0) 0 [] := Own.lit eByte_len w2 5 [] (by simp) rfl (Nat.le_refl _) (by simp [maxLen])
  have hsb := Sl.ofBlock (n := 9) eByte_len (hbs l t f s) hg2 rfl
  clear hx1 hx1' hg
  go_wp2_with (first
    | (at_builtin; refine wpList_app _ rfl (.tmp 56) (.tmp 57) 24 rfl eByte_len eByte_one w2.heap.size 5 i0 (.int .u8 0) 1 Try.underlying24 hi hz0 hz1' hz2' rfl (by omega) _ 0 [] rfl hb0 (some ⟨g, 0, none⟩) 9 9 (hbs l t f s) rfl (hsb.below (below_alloc _ _)) (by simp [maxLen]) (by omega) (by simp) ?_; intro v3 w3 ap3; have hown3 := ap3.own; simp only [Nat.zero_add, List.nil_append] at hown3; have hb3 := Below.trans ((Below.refl _ w2).alloc (Nat.le_refl _) _) ap3.below)
    | (at_builtin; refine wpList_app _ rfl (.tmp 58) (.tmp 59) 24 rfl eByte_len eByte_one w2.heap.size 5 i0 (.int .u8 0) 1 Try.underlying24 hi hz0 hz1' hz2' rfl (by omega) v3 9 (hbs l t f s) rfl hown3 A n c lt rfl (hs2.below hb3) (le_maxLen (by omega)) (by omega) hb3.size ?_; intro v4 w4 ap4; have hown4 := ap4.own; have hb4 := Below.trans hb3 ap4.below; obtain ⟨A4, c4, rfl, _, hm4⟩ := hown4.isSlice))
  simp only [maxLen] at hm4
  refine (get_p _ _ _ _ _ (hown4.sl eByte_len) (by omega)).mono ?_
  rintro e w5 ⟨rfl, hb5⟩
  rw [hdV_hbs l t f s lt h1 h2 h3 h4 ht ht' hf hf', hdE_hbs]
  have hC5 := bstep hb5 hb4
  have hB5 := bstep hC5 hB2
  have hx5 := hx2.below hC5
  have hg5 := (hC5.block g (by have := hC2.size; omega)).trans hg2
  have hz5 := hC5.size
  clear hx2 hsb hb0 hown3 hown4 hb3 hb4 hb5 ap3 ap4 hg2 hs2
  have hgn : g ≠ w.heap.size ∧ g ≠ w.heap.size + 1 := ⟨by omega, by omega⟩
  go_wp2_with fail
  have hs6 := ((Sl.ofBlock (n := 9) eByte_len (hbs l t f s) hg5 rfl).below (below_alloc _ (.cells #[.int .i64 l, .int .u8 t, .int .u8 f, .int .i64 s] 28))).sub 0 8 (by omega)
  refine (get_p _ _ _ _ _ hs6 (by omega)).mono ?_
  rintro e w6 ⟨rfl, hb6⟩
  rw [show hdV (List.take 8 (List.drop 0 (hbs l t f s))) = .agg #[.int .i64 0, .int .u8 0, .int .u8 0, .int .i64 0] from by simp [hdV, hbs, hd], show hdE (List.take 8 (List.drop 0 (hbs l t f s))) = 3 from by simp [hdE, hbs]]
  have hy6 := (Box.new w5 #[.int .i64 l, .int .u8 t, .int .u8 f, .int .i64 s] 28).below hb6
  have hC6 := bstep hb6 (w := w5) (by (repeat (first | exact Below.refl _ _ | assumption | refine Below.drew ?_ | refine below_drewN ?_ _ | refine Below.alloc ?_ (by first | exact Nat.le_refl _ | omega | (simp; done) | (simp; omega)) _ | refine Below.setCell ?_ (by first | omega | (simp; done) | (simp; omega)) _))); have hB6 := bstep hC6 hB5; have hz6 := hb6.size; (try simp only [World.size_alloc, World.heap_drewN, World.size_setCell, heap_drew, Nat.add_one_le_iff] at hz6); clear hb6
  have hx6 := hx5.below hC6
  have hg6 := (hC6.block g (by omega)).trans hg5
  have hglt6 : g < w6.heap.size := by omega
  have hcell6 : w6.cell? ⟨g, 5, none⟩ = some (.int .u8 (s / 16777216)) := by
    rw [cell_of_row w6 g 5 _ _ (0, 0) hg6]
    simp [hbs, eByte]
    exact b8_toNat _ (by omega)
  have hfr6 : w6.frozen? ⟨g, 5, none⟩ = false := frozen_of_row w6 g 5 _ _ hg6
  have hor := u8_or128_right (s / 16777216) (by omega) (by omega)
  have hx6' := hx6.2
  have hy6' := hy6.2
  clear hx5 hs6
  go_wp2_with fail
  have hx7 := hx6.far (p := ⟨g, 5, none⟩) (by simp; omega) (.int .u8 (s / 16777216 + 128))
  have hy7 := hy6.far (p := ⟨g, 5, none⟩) (by simp; omega) (.int .u8 (s / 16777216 + 128))
  have hB7 : Below w.heap.size w (w6.setCell ⟨g, 5, none⟩ (.int .u8 (s / 16777216 + 128))) := hB6.setCell (by simp; omega) _
  have hg7 : (w6.setCell ⟨g, 5, none⟩ (.int .u8 (s / 16777216 + 128))).heap[g]? = some (.cells ((hbsH l t f s).flatMap eByte).toArray 69 (0, 0)) := by
    rw [← hbsH_cells l t f s h3 h4]
    exact heap_setCell_same _ _ _ _ _ _ hg6
  have hs7 := Sl.ofBlock (n := 9) eByte_len (hbsH l t f s) hg7 rfl
  clear hx6 hx6' hy6 hy6' hg6 hg7 hcell6 hfr6 hor
  generalize w6.setCell ⟨g, 5, none⟩ (.int .u8 (s / 16777216 + 128)) = w7 at *
  refine (get_p _ _ _ _ _ (hs7.below (below_alloc _ _)) (by omega)).mono ?_
  rintro e w8 ⟨rfl, hb8⟩
  rw [hdV_hbsH l t f s h1 h2 h3 h4 ht ht' hf hf', show hdE (hbsH l t f s) = 0 from by simp [hdE, hbsH]]
  have hC8 := bstep hb8 (w := w7) (by (repeat (first | exact Below.refl _ _ | assumption | refine Below.drew ?_ | refine below_drewN ?_ _ | refine Below.alloc ?_ (by first | exact Nat.le_refl _ | omega | (simp; done) | (simp; omega)) _ | refine Below.setCell ?_ (by first | omega | (simp; done) | (simp; omega)) _))); have hB8 := bstep hC8 hB7; have hz8 := hb8.size; (try simp only [World.size_alloc, World.heap_drewN, World.size_setCell, heap_drew, Nat.add_one_le_iff] at hz8); clear hb8
  have hx8 := hx7.below hC8
  have hy8 := hy7.below hC8
  obtain ⟨hx8s, hx8'⟩ := id hx8
  obtain ⟨hy8s, hy8'⟩ := id hy8
  go_wp2_with fail
  refine (has_p _ _ _ _ _ _).mono ?_
  rintro e w9 ⟨rfl, hb9⟩
  rw [hasB_self f hf hf']
  have hC9 := bstep hb9 (w := w8) (by (repeat (first | exact Below.refl _ _ | assumption | refine Below.drew ?_ | refine below_drewN ?_ _ | refine Below.alloc ?_ (by first | exact Nat.le_refl _ | omega | (simp; done) | (simp; omega)) _ | refine Below.setCell ?_ (by first | omega | (simp; done) | (simp; omega)) _))); have hB9 := bstep hC9 hB8; have hz9 := hb9.size; (try simp only [World.size_alloc, World.heap_drewN, World.size_setCell, heap_drew, Nat.add_one_le_iff] at hz9); clear hb9
  obtain ⟨hx9s, hx9⟩ := hx8.below hC9
  go_wp2_with fail
  refine (has_p _ _ _ _ _ _).mono ?_
  rintro e w10 ⟨rfl, hb10⟩
  rw [hasB_zero f hf hf']
  have hC10 := bstep hb10 (w := w9) (by (repeat (first | exact Below.refl _ _ | assumption | refine Below.drew ?_ | refine below_drewN ?_ _ | refine Below.alloc ?_ (by first | exact Nat.le_refl _ | omega | (simp; done) | (simp; omega)) _ | refine Below.setCell ?_ (by first | omega | (simp; done) | (simp; omega)) _))); have hB10 := bstep hC10 hB9; have hz10 := hb10.size; (try simp only [World.size_alloc, World.heap_drewN, World.size_setCell, heap_drew, Nat.add_one_le_iff] at hz10); clear hb10
  go_wp2_with fail
  refine (awake8 _).mono ?_
  rintro e w11 ⟨rfl, hb11⟩
  have hC11 := bstep hb11 (w := w10) (by (repeat (first | exact Below.refl _ _ | assumption | refine Below.drew ?_ | refine below_drewN ?_ _ | refine Below.alloc ?_ (by first | exact Nat.le_refl _ | omega | (simp; done) | (simp; omega)) _ | refine Below.setCell ?_ (by first | omega | (simp; done) | (simp; omega)) _))); have hB11 := bstep hC11 hB10; have hz11 := hb11.size; (try simp only [World.size_alloc, World.heap_drewN, World.size_setCell, heap_drew, Nat.add_one_le_iff] at hz11); clear hb11
  go_wp2_with fail
  go_ret
  exact ⟨rfl, hB11⟩
theorem fheadBack_all (x : Hd) (A : Option Addr) (n c : Nat) (l : List UInt8) (w : World) (ok : okHd x) (hs : Sl eByte 1 w A n l) (hnc : n ≤ c) (hc : c ≤ maxLen) (_hok : ∀ x ∈ l, True) (_hz : n * 1 ≤ 140737488351232) :
    Calls Try.prog 5 #[.agg (eHd x).toArray, .slice A n c] w fun e w' => e = .returned (.bool true) ∧ Below w.heap.size w w' := by
  obtain ⟨a, t, f, s⟩ := x
  obtain ⟨_, ⟨h1, h2⟩, ⟨h3, h4⟩, _⟩ := ok
  simp only at h1 h2 h3 h4
  by_cases h : a < 0 ∨ 16777215 < a ∨ s < 0 ∨ 2147483647 < s
  · exact fheadBack_no a t f s A n c w h h1 h2 h3 h4
  · by_cases hn : 30 < n
    · exact fheadBack_long a t f s A n c w (by omega) (by omega) (by omega) (by omega) h1 h2 h3 h4 hn
    · exact fheadBack_ok a t f s A n c l w hs (by omega) (by omega) (by omega) (by omega) h1 h2 h3 h4 (by omega)
end Go.Proofs.Ytcnbeijlcndjpaa
