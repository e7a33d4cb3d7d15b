/-
What the function 'awake' of the statements of layer 8 answers: true.
-/
import Derived.Test.YtcnbeijlcndjpaaGet
import Derived.Test.YtcnbeijlcndjpaaHas
namespace Go.Proofs.Ytcnbeijlcndjpaa
open Go.RowKit

theorem awake8 (w : World) : Calls Try.prog 13 #[] w fun e w' => e = .returned (.bool true) ∧ Below w.heap.size w w' := by
  obtain ⟨i0, hi, hz0, hz1', hz2'⟩ := info_parts info_u8
  have k1 : hchk 8 3 = 0 := by decide
  have k2 : hchk (-1) 0 = 8 := by decide
  go_enter Try.func13, Try.ntmps13
  go_wp2_with fail
  refine (put_p _ _ _ _ _ (by decide) (by decide) (by decide) (by decide)).mono ?_
  rintro e w1 ⟨A1, n1, c1, rfl, hs1, hn1, hm1, hf1', hb1⟩
  rw [k1, if_pos rfl] at hs1
  obtain rfl : n1 = 9 := hs1.1.symm
  obtain rfl : c1 = 9 := by have := hf1' rfl; omega
  obtain ⟨b1, o1, rfl, hlt1, _⟩ := hs1.at_ (k := 0) (by omega)
  have hB1 := bstep hb1 (w := w) (by (repeat (first | exact Below.refl _ _ | assumption | refine Below.drew ?_ | refine below_drewN ?_ _ | refine Below.alloc ?_ (by first | exact Nat.le_refl _ | omega | (simp; done) | (simp; omega)) _ | refine Below.setCell ?_ (by first | omega | (simp; done) | (simp; omega)) _))); have hz1 := hb1.size; (try simp only [World.size_alloc, World.heap_drewN, World.size_setCell, heap_drew, Nat.add_one_le_iff] at hz1)
  have hx1 := (Box.new w #[.int .i64 8, .int .u8 6, .int .u8 5, .int .i64 3] 28).below hb1
  clear hf1' hn1 hm1 hb1
  have hsN := Sl.fresh eByte_len w1 5 (cs := #[.int .u8 1]) [1] (by simp [eByte]) rfl
  go_wp2_with (at_builtin; refine wpList_app_full _ rfl (.tmp 17) (.tmp 18) 24 rfl eByte_len w.heap.size 5 i0 (.int .u8 0) 1 Try.underlying24 hi hz0 hz1' hz2' rfl b1 o1 9 9 _ rfl (hs1.below (below_alloc _ _)) (by omega) w1.heap.size 0 1 1 [1] rfl hsN (by omega) (by omega) (by simp [maxLen]) (by omega) (by simp; omega) ?_; intro v2 w2 hown2 hb2; obtain ⟨A2, c2, rfl, hn2, hm2⟩ := hown2.isSlice)
  have hC2 := bstep hb2 (w := w1) (by (repeat (first | exact Below.refl _ _ | assumption | refine Below.drew ?_ | refine below_drewN ?_ _ | refine Below.alloc ?_ (by first | exact Nat.le_refl _ | omega | (simp; done) | (simp; omega)) _ | refine Below.setCell ?_ (by first | omega | (simp; done) | (simp; omega)) _))); have hB2 := bstep hC2 hB1; have hz2 := hb2.size; (try simp only [World.size_alloc, World.heap_drewN, World.size_setCell, heap_drew, Nat.add_one_le_iff] at hz2); clear hb2
  have hx2 := hx1.below hC2
  have hs2 := hs1.below hC2
  clear hx1 hs1 hsN
  refine (get_p _ _ _ _ _ (hown2.sl eByte_len) (by simp [maxLen] at hm2; omega)).mono ?_
  rintro e w3 ⟨rfl, hb3⟩
  rw [show hdV (hbs 8 6 5 3 ++ [1]) = .agg #[.int .i64 8, .int .u8 6, .int .u8 5, .int .i64 3] from by rw [hdV, show hd (hbs 8 6 5 3 ++ [1]) = (8, 6, 5, 3) from by decide], show hdE (hbs 8 6 5 3 ++ [1]) = 0 from by decide]
  have hC3 := bstep hb3 (w := w2) (by (repeat (first | exact Below.refl _ _ | assumption | refine Below.drew ?_ | refine below_drewN ?_ _ | refine Below.alloc ?_ (by first | exact Nat.le_refl _ | omega | (simp; done) | (simp; omega)) _ | refine Below.setCell ?_ (by first | omega | (simp; done) | (simp; omega)) _))); have hB3 := bstep hC3 hB2; have hz3 := hb3.size; (try simp only [World.size_alloc, World.heap_drewN, World.size_setCell, heap_drew, Nat.add_one_le_iff] at hz3); clear hb3
  have hs3 := hs2.below hC3
  have hx3 := hx2.below hC3
  clear hs2 hx2
  go_wp2_with fail
  have hs3' := (hs3.below (below_alloc _ (.cells #[.int .i64 8, .int .u8 6, .int .u8 5, .int .i64 3] 28))).sub 0 8 (by omega)
  refine (get_p _ _ _ _ _ hs3' (by omega)).mono ?_
  rintro e w4 ⟨rfl, hb4⟩
  rw [show hdV (List.take 8 (List.drop 0 (hbs 8 6 5 3))) = .agg #[.int .i64 0, .int .u8 0, .int .u8 0, .int .i64 0] from by rw [hdV, show hd (List.take 8 (List.drop 0 (hbs 8 6 5 3))) = (0, 0, 0, 0) from by decide], show hdE (List.take 8 (List.drop 0 (hbs 8 6 5 3))) = 3 from by decide]
  have hy4 := (Box.new w3 #[.int .i64 8, .int .u8 6, .int .u8 5, .int .i64 3] 28).below hb4
  have hC4 := bstep hb4 (w := w3) (by (repeat (first | exact Below.refl _ _ | assumption | refine Below.drew ?_ | refine below_drewN ?_ _ | refine Below.alloc ?_ (by first | exact Nat.le_refl _ | omega | (simp; done) | (simp; omega)) _ | refine Below.setCell ?_ (by first | omega | (simp; done) | (simp; omega)) _))); have hB4 := bstep hC4 hB3; have hz4 := hb4.size; (try simp only [World.size_alloc, World.heap_drewN, World.size_setCell, heap_drew, Nat.add_one_le_iff] at hz4); clear hb4
  have hs4 := hs3.below hC4
  have hx4 := hx3.below hC4
  clear hs3 hs3' hx3
  go_wp2_with fail
  refine (put_p _ _ _ _ _ (by decide) (by decide) (by decide) (by decide)).mono ?_
  rintro e w5 ⟨A5, n5, c5, rfl, _, _, _, _, hb5⟩
  rw [k2]
  have hC5 := bstep hb5 (w := w4) (by (repeat (first | exact Below.refl _ _ | assumption | refine Below.drew ?_ | refine below_drewN ?_ _ | refine Below.alloc ?_ (by first | exact Nat.le_refl _ | omega | (simp; done) | (simp; omega)) _ | refine Below.setCell ?_ (by first | omega | (simp; done) | (simp; omega)) _))); have hB5 := bstep hC5 hB4; have hz5 := hb5.size; (try simp only [World.size_alloc, World.heap_drewN, World.size_setCell, heap_drew, Nat.add_one_le_iff] at hz5); clear hb5
  have hs5 := hs4.below hC5
  have hx5 := hx4.below hC5
  have hy5 := hy4.below hC5
  clear hs4 hx4 hy4
  have kc := hs5.toStr (P := Try.prog) (c := 9) 24 5 Try.underlying24 Try.underlying5 9 Try.underlying9
  rw [show (⟨(hbs 8 6 5 3).toArray⟩ : ByteArray) = ⟨#[0, 0, 8, 6, 5, 0, 0, 0, 3]⟩ from by decide] at kc
  have hx5' := hx5.2
  have hy5' := hy5.2
  go_wp2_with fail
  refine (check_p _ _ _ _ _).mono ?_
  rintro e w6 ⟨rfl, hb6⟩
  rw [k1]
  have hC6 := bstep hb6 (w := w5) (by (repeat (first | exact Below.refl _ _ | assumption | refine Below.drew ?_ | refine below_drewN ?_ _ | refine Below.alloc ?_ (by first | exact Nat.le_refl _ | omega | (simp; done) | (simp; omega)) _ | refine Below.setCell ?_ (by first | omega | (simp; done) | (simp; omega)) _))); have hB6 := bstep hC6 hB5; have hz6 := hb6.size; (try simp only [World.size_alloc, World.heap_drewN, World.size_setCell, heap_drew, Nat.add_one_le_iff] at hz6); clear hb6
  have hx6 := hx5.below hC6
  have hx6' := hx6.2
  go_wp2_with fail
  refine (has_p _ _ _ _ _ _).mono ?_
  rintro e w7 ⟨rfl, hb7⟩
  rw [show hasB 5 4 = true from by decide]
  have hC7 := bstep hb7 (w := w6) (by (repeat (first | exact Below.refl _ _ | assumption | refine Below.drew ?_ | refine below_drewN ?_ _ | refine Below.alloc ?_ (by first | exact Nat.le_refl _ | omega | (simp; done) | (simp; omega)) _ | refine Below.setCell ?_ (by first | omega | (simp; done) | (simp; omega)) _))); have hB7 := bstep hC7 hB6; have hz7 := hb7.size; (try simp only [World.size_alloc, World.heap_drewN, World.size_setCell, heap_drew, Nat.add_one_le_iff] at hz7); clear hb7
  have hx7 := (hx6.below hC7).2
  go_wp2_with fail
  refine (has_p _ _ _ _ _ _).mono ?_
  rintro e w8 ⟨rfl, hb8⟩
  rw [show hasB 5 6 = false from by decide]
  have hC8 := bstep hb8 (w := w7) (by (repeat (first | exact Below.refl _ _ | assumption | refine Below.drew ?_ | refine below_drewN ?_ _ | refine Below.alloc ?_ (by first | exact Nat.le_refl _ | omega | (simp; done) | (simp; omega)) _ | refine Below.setCell ?_ (by first | omega | (simp; done) | (simp; omega)) _))); have hB8 := bstep hC8 hB7; have hz8 := hb8.size; (try simp only [World.size_alloc, World.heap_drewN, World.size_setCell, heap_drew, Nat.add_one_le_iff] at hz8); clear hb8
  go_wp2_with fail
  go_ret
  exact ⟨rfl, hB8⟩
end Go.Proofs.Ytcnbeijlcndjpaa
