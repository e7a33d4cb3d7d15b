/-
The contracts of the functions that the statements of layer 8 (fhead) reach: what each computes.
-/
import Derived.Test.YtcnbeijlcndjpaaK
namespace Go.Proofs.Ytcnbeijlcndjpaa
open Go.RowKit

def hchk (l s : Int) : Int := if l < 0 ∨ 16777215 < l ∨ s < 0 ∨ 2147483647 < s then 8 else 0
def b8 (n : Int) : UInt8 := UInt8.ofNat n.toNat
/-- A head's bytes. -/
def hbs (l t f s : Int) : List UInt8 := [b8 (l / 65536), b8 (l / 256 % 256), b8 (l % 256), b8 t, b8 f, b8 (s / 16777216), b8 (s / 65536 % 256), b8 (s / 256 % 256), b8 (s % 256)]
theorem b8_toNat (n : Int) (h : 0 ≤ n ∧ n ≤ 255) : ((b8 n).toNat : Int) = n := by
  unfold b8
  simp
  omega

theorem check_p (l t f s : Int) (w : World) :
    Calls Try.prog 11 #[.agg #[.int .i64 l, .int .u8 t, .int .u8 f, .int .i64 s]] w fun e w' => e = .returned (.int .i64 (hchk l s)) ∧ Below w.heap.size w w' := by
  go_enter Try.func11, Try.ntmps11
  go_wp2
  all_goals
    go_ret
    refine ⟨?_, by (repeat (first | exact Below.refl _ _ | assumption | refine Below.drew ?_ | refine below_drewN ?_ _ | refine Below.alloc ?_ (by first | exact Nat.le_refl _ | omega | (simp; done) | (simp; omega)) _ | refine Below.setCell ?_ (by first | omega | (simp; done) | (simp; omega)) _))⟩
    simp [hchk]
    omega
theorem check_r (l t f s : Int) (w : World) :
    Calls Try.prog 12 #[.agg #[.int .i64 l, .int .u8 t, .int .u8 f, .int .i64 s]] w fun e w' => e = .returned (.int .i64 (hchk l s)) ∧ Below w.heap.size w w' := by
  go_enter Try.func12, Try.ntmps12
  go_wp2
  all_goals
    go_ret
    refine ⟨?_, by (repeat (first | exact Below.refl _ _ | assumption | refine Below.drew ?_ | refine below_drewN ?_ _ | refine Below.alloc ?_ (by first | exact Nat.le_refl _ | omega | (simp; done) | (simp; omega)) _ | refine Below.setCell ?_ (by first | omega | (simp; done) | (simp; omega)) _))⟩
    simp [hchk]
    omega

/-- The result of Put. -/
def PutPost (full : Bool) (w : World) (l t f s : Int) (e : Ending) (w' : World) : Prop :=
  ∃ A n c, e = .returned (.tuple #[.slice A n c, .int .i64 (hchk l s)]) ∧ Sl eByte 1 w' A n (if hchk l s = 0 then hbs l t f s else []) ∧ n ≤ c ∧ c ≤ maxLen ∧ (full = true → n = 9 ∧ c = 9 ∨ n = 0 ∧ c = 0) ∧ Below w.heap.size w w'
/-- A head that may be: its bytes lie in a new array. -/
def PutArr (w : World) (l t f s : Int) (e : Ending) (w' : World) : Prop :=
  ∃ g, e = .returned (.tuple #[.slice (some ⟨g, 0, none⟩) 9 9, .int .i64 0]) ∧ w'.heap[g]? = some (.cells ((hbs l t f s).flatMap eByte).toArray 69 (0, 0)) ∧ w.heap.size ≤ g ∧ Below w.heap.size w w'
theorem put_p_arr (l t f s : Int) (w : World) (h1 : 0 ≤ l) (h2 : l ≤ 16777215) (h3 : 0 ≤ s) (h4 : s ≤ 2147483647) (ht : 0 ≤ t) (ht' : t ≤ 255) (hf : 0 ≤ f) (hf' : f ≤ 255) :
    Calls Try.prog 9 #[.agg #[.int .i64 l, .int .u8 t, .int .u8 f, .int .i64 s]] w (PutArr w l t f s) := by
  have hc : hchk l s = 0 := by simp [hchk]; omega
  go_enter Try.func9, Try.ntmps9
  go_wp2_with (go_at_call 11; refine (check_p _ _ _ _ _).mono ?_; rintro e w1 ⟨rfl, hb1⟩; have hB1 := bstep hb1 (w := w) (by (repeat (first | exact Below.refl _ _ | assumption | refine Below.drew ?_ | refine below_drewN ?_ _ | refine Below.alloc ?_ (by first | exact Nat.le_refl _ | omega | (simp; done) | (simp; omega)) _ | refine Below.setCell ?_ (by first | omega | (simp; done) | (simp; omega)) _))); have hz1 := hb1.size; (try simp only [World.size_alloc, World.heap_drewN, World.size_setCell, heap_drew, Nat.add_one_le_iff] at hz1); obtain ⟨hc1, hf1⟩ := bcell hb1)
  go_quiet (fail)
  have hb2 := below_drewN hb1 nq
  have hB2 := below_drewN hB1 nq
  obtain ⟨hc2, hf2⟩ := bcell hb2
  clear hb1 hB1 hc1 hf1 hz1
  generalize w1.drewN nq = w2 at *
  have hz2 := hb2.size
  (try simp only [World.size_alloc, World.heap_drewN, World.size_setCell, heap_drew, Nat.add_one_le_iff] at hz2)
  go_wp2
  refine bodyPost_ret (v := .tuple #[.slice (some ⟨w2.heap.size, 0, none⟩) 9 9, .int .i64 0]) (by simp [results, Try.results9, go_sem]) rfl ?_
  refine ⟨_, rfl, ?_, by omega, ?_⟩
  · rw [heap_alloc_new]
    congr 2
    simp [hbs, eByte, b8]
    omega
  · (repeat (first | exact Below.refl _ _ | assumption | refine Below.drew ?_ | refine below_drewN ?_ _ | refine Below.alloc ?_ (by first | exact Nat.le_refl _ | omega | (simp; done) | (simp; omega)) _ | refine Below.setCell ?_ (by first | omega | (simp; done) | (simp; omega)) _))
theorem put_p_ok (l t f s : Int) (w : World) (h1 : 0 ≤ l) (h2 : l ≤ 16777215) (h3 : 0 ≤ s) (h4 : s ≤ 2147483647) (ht : 0 ≤ t) (ht' : t ≤ 255) (hf : 0 ≤ f) (hf' : f ≤ 255) :
    Calls Try.prog 9 #[.agg #[.int .i64 l, .int .u8 t, .int .u8 f, .int .i64 s]] w (PutPost true w l t f s) := by
  have hc : hchk l s = 0 := by simp [hchk]; omega
  refine (put_p_arr l t f s w h1 h2 h3 h4 ht ht' hf hf').mono ?_
  rintro e w' ⟨g, rfl, hg, hlo, hb⟩
  refine ⟨_, _, _, by rw [hc], ?_, Nat.le_refl _, by simp [maxLen], fun _ => .inl ⟨rfl, rfl⟩, hb⟩
  rw [if_pos hc]
  exact Sl.ofBlock eByte_len _ hg rfl

theorem put_p_no (l t f s : Int) (w : World) (h : l < 0 ∨ 16777215 < l ∨ s < 0 ∨ 2147483647 < s) :
    Calls Try.prog 9 #[.agg #[.int .i64 l, .int .u8 t, .int .u8 f, .int .i64 s]] w (PutPost true w l t f s) := by
  have hc : hchk l s = 8 := by simp [hchk, h]
  have HC := Lib.hid hc
  clear hc h
  go_enter Try.func9, Try.ntmps9
  go_wp2_with (go_at_call 11; refine (check_p _ _ _ _ _).mono ?_; rw [HC.out]; rintro e w1 ⟨rfl, hb1⟩; have hB1 := bstep hb1 (w := w) (by (repeat (first | exact Below.refl _ _ | assumption | refine Below.drew ?_ | refine below_drewN ?_ _ | refine Below.alloc ?_ (by first | exact Nat.le_refl _ | omega | (simp; done) | (simp; omega)) _ | refine Below.setCell ?_ (by first | omega | (simp; done) | (simp; omega)) _))); have hz1 := hb1.size; (try simp only [World.size_alloc, World.heap_drewN, World.size_setCell, heap_drew, Nat.add_one_le_iff] at hz1); obtain ⟨hc1, hf1⟩ := bcell hb1)
  refine bodyPost_ret (v := .tuple #[.slice none 0 0, .int .i64 8]) (by simp [results, Try.results9, go_sem]) rfl ?_
  refine ⟨_, _, _, by rw [HC.out], ?_, Nat.le_refl _, by simp [maxLen], fun _ => .inr ⟨rfl, rfl⟩, by (repeat (first | exact Below.refl _ _ | assumption | refine Below.drew ?_ | refine below_drewN ?_ _ | refine Below.alloc ?_ (by first | exact Nat.le_refl _ | omega | (simp; done) | (simp; omega)) _ | refine Below.setCell ?_ (by first | omega | (simp; done) | (simp; omega)) _))⟩
  rw [if_neg (by rw [HC.out]; omega)]
  exact Sl.nil
theorem put_p (l t f s : Int) (w : World) (ht : 0 ≤ t) (ht' : t ≤ 255) (hf : 0 ≤ f) (hf' : f ≤ 255) :
    Calls Try.prog 9 #[.agg #[.int .i64 l, .int .u8 t, .int .u8 f, .int .i64 s]] w (PutPost true w l t f s) := by
  by_cases h : l < 0 ∨ 16777215 < l ∨ s < 0 ∨ 2147483647 < s
  · exact put_p_no l t f s w h
  · exact put_p_ok l t f s w (by omega) (by omega) (by omega) (by omega) ht ht' hf hf'

theorem info_u8 : (Try.prog.info? 5).map (fun i => (i.zero, i.size, i.bytes)) = some (some (.int .u8 0), 1, 1) := by kernel_rfl

/-- A number in k bytes, the highest first. -/
def wide : Nat → Int → List UInt8 → List UInt8
  | 0, _, out => out
  | k + 1, n, out => wide k (n / 256) (b8 (n % 256) :: out)

/-- A row of bytes that a call makes. -/
def MadePost (w : World) (n : Nat) (l : List UInt8) (e : Ending) (w' : World) : Prop :=
  ∃ v, e = .returned v ∧ Own eByte 1 w.heap.size 5 w' v n l ∧ Below w.heap.size w w'
theorem wide_len : ∀ (k : Nat) (n : Int) (out : List UInt8), (wide k n out).length = out.length + k
  | 0, _, _ => rfl
  | k + 1, n, out => by rw [wide, wide_len k]; simp; omega
theorem wide_r (n : Int) (k : Nat) (w : World) (h0 : 0 ≤ n) (h1 : n ≤ 4294967295) (hk : k ≤ 10) :
    Calls Try.prog 28 #[.int .i64 n, .int .i64 k] w (MadePost w k (wide k n [])) := by
  obtain ⟨i0, hi, hz0, hz1, hz2⟩ := info_parts info_u8
  go_enter Try.func28, Try.ntmps28
  go_wp2
  go_loopw [0, 5, 6] (fun m v i wr => ∃ (j : Nat) (q : Int) (l : List UInt8), j ≤ k ∧ i = .int .i64 j ∧ m = .int .i64 q ∧ 0 ≤ q ∧ q ≤ 4294967295 ∧ Own eByte 1 w.heap.size 5 wr v j l ∧ wide (k - j) q l = wide k n [] ∧ Below w.heap.size w wr)
    (fun _ _ i _ => k - (intOf i).toNat)
  case atStart => exact ⟨0, n, [], by omega, rfl, rfl, h0, h1, Own.nil _ _ _, rfl, Below.refl _ _⟩
  case round =>
    obtain ⟨j, q, l, hj, rfl, rfl, hq0, hq1, hown, hw, hB⟩ := hrel
    obtain ⟨A, c, rfl, hc1, hc2⟩ := hown.isSlice
    have hz := hB.size
    have HW := Lib.hid hw
    clear hw
    by_cases hlt : j < k
    · go_wp2_with (at_builtin; refine wpList_app _ rfl (.tmp 15) (.tmp 16) 24 rfl eByte_len eByte_one w.heap.size 5 i0 (.int .u8 0) 1 Try.underlying24 hi hz0 hz1 hz2 rfl (by omega) _ 1 [b8 (q % 256)] rfl (Own.lit eByte_len wr _ _ (by simp [eByte, b8]; omega) rfl hz (by simp [maxLen])) A j c l rfl ((hown.sl eByte_len).below (below_alloc _ _)) (le_maxLen (by omega)) (by omega) (by simp; omega) ?_; intro v' w1 ap1; have hown1 := ap1.own; have hb1 := ap1.below)
      have hown2 : Own eByte 1 w.heap.size 5 w1 v' (j + 1) (b8 (q % 256) :: l) := by rw [Nat.add_comm j 1]; exact hown1
      have hB1 : Below w.heap.size w w1 := Below.trans (by (repeat (first | exact Below.refl _ _ | assumption | refine Below.drew ?_ | refine below_drewN ?_ _ | refine Below.alloc ?_ (by first | exact Nat.le_refl _ | omega | (simp; done) | (simp; omega)) _ | refine Below.setCell ?_ (by first | omega | (simp; done) | (simp; omega)) _))) hb1
      go_roundw
      case rel => exact ⟨j + 1, q / 256, b8 (q % 256) :: l, by omega, by go_num, rfl, by omega, by omega, hown2, by rw [← HW.out, show k - j = (k - (j + 1)) + 1 from by omega, wide], hB1⟩
      case measure => simp [intOf]; omega
    · obtain rfl : j = k := by omega
      go_wp2
      go_ret
      refine ⟨_, rfl, ?_, hB⟩
      have h2 := HW.out
      rw [Nat.sub_self, wide] at h2
      subst h2
      exact hown

theorem wide_i (n k : Int) (w : World) (h0 : 0 ≤ n) (h1 : n ≤ 4294967295) (hk0 : 0 ≤ k) (hk : k ≤ 10) :
    Calls Try.prog 28 #[.int .i64 n, .int .i64 k] w (MadePost w k.toNat (wide k.toNat n [])) := by
  obtain ⟨j, rfl⟩ := Int.eq_ofNat_of_zero_le hk0
  exact wide_r n j w h0 h1 (by omega)

/-- What the document's Put answers. -/
theorem hbs_wide (l t f s : Int) (h1 : 0 ≤ l) (h2 : l ≤ 16777215) (h3 : 0 ≤ s) (h4 : s ≤ 2147483647) : wide 3 l [] ++ [b8 t, b8 f] ++ wide 4 s [] = hbs l t f s := by
  have e1 : l / 256 / 256 % 256 = l / 65536 := by omega
  have e2 : s / 256 / 256 / 256 % 256 = s / 16777216 := by omega
  have e3 : s / 256 / 256 % 256 = s / 65536 % 256 := by omega
  simp [wide, hbs, e1, e2, e3]
theorem put_r_no (l t f s : Int) (w : World) (h : l < 0 ∨ 16777215 < l ∨ s < 0 ∨ 2147483647 < s) :
    Calls Try.prog 10 #[.agg #[.int .i64 l, .int .u8 t, .int .u8 f, .int .i64 s]] w (PutPost false w l t f s) := by
  have hc : hchk l s = 8 := by simp [hchk, h]
  have HC := Lib.hid hc
  clear hc h
  go_enter Try.func10, Try.ntmps10
  go_wp2_with (go_at_call 12; refine (check_r _ _ _ _ _).mono ?_; rw [HC.out]; rintro e w1 ⟨rfl, hb1⟩; have hB1 := bstep hb1 (w := w) (by (repeat (first | exact Below.refl _ _ | assumption | refine Below.drew ?_ | refine below_drewN ?_ _ | refine Below.alloc ?_ (by first | exact Nat.le_refl _ | omega | (simp; done) | (simp; omega)) _ | refine Below.setCell ?_ (by first | omega | (simp; done) | (simp; omega)) _))); have hz1 := hb1.size; (try simp only [World.size_alloc, World.heap_drewN, World.size_setCell, heap_drew, Nat.add_one_le_iff] at hz1); obtain ⟨hc1, hf1⟩ := bcell hb1)
  refine bodyPost_ret (v := .tuple #[.slice none 0 0, .int .i64 8]) (by simp [results, Try.results10, go_sem]) rfl ?_
  refine ⟨_, _, _, by rw [HC.out], ?_, Nat.le_refl _, by simp [maxLen], (fun h => by cases h), by (repeat (first | exact Below.refl _ _ | assumption | refine Below.drew ?_ | refine below_drewN ?_ _ | refine Below.alloc ?_ (by first | exact Nat.le_refl _ | omega | (simp; done) | (simp; omega)) _ | refine Below.setCell ?_ (by first | omega | (simp; done) | (simp; omega)) _))⟩
  rw [if_neg (by rw [HC.out]; omega)]
  exact Sl.nil
theorem put_r_ok (l t f s : Int) (w : World) (h1 : 0 ≤ l) (h2 : l ≤ 16777215) (h3 : 0 ≤ s) (h4 : s ≤ 2147483647) (ht : 0 ≤ t) (ht' : t ≤ 255) (hf : 0 ≤ f) (hf' : f ≤ 255) :
    Calls Try.prog 10 #[.agg #[.int .i64 l, .int .u8 t, .int .u8 f, .int .i64 s]] w (PutPost false w l t f s) := by
  have hc : hchk l s = 0 := by simp [hchk]; omega
  obtain ⟨i0, hi, hz0, hz1', hz2'⟩ := info_parts info_u8
  go_enter Try.func10, Try.ntmps10
  go_wp2_with (go_at_call 12; refine (check_r _ _ _ _ _).mono ?_; rw [hc]; rintro e w1 ⟨rfl, hb1⟩; have hB1 := bstep hb1 (w := w) (by (repeat (first | exact Below.refl _ _ | assumption | refine Below.drew ?_ | refine below_drewN ?_ _ | refine Below.alloc ?_ (by first | exact Nat.le_refl _ | omega | (simp; done) | (simp; omega)) _ | refine Below.setCell ?_ (by first | omega | (simp; done) | (simp; omega)) _))); have hz1 := hb1.size; (try simp only [World.size_alloc, World.heap_drewN, World.size_setCell, heap_drew, Nat.add_one_le_iff] at hz1); obtain ⟨hc1, hf1⟩ := bcell hb1)
  go_region_held3 (fun w' => Below w1.heap.size w1 w' ∧ ∀ b o, b < w1.heap.size → w'.cell? ⟨b, o, none⟩ = w1.cell? ⟨b, o, none⟩) ((first | exact keepS ((Below.refl _ _).drew) | exact keepS (bstep (by assumption) ‹Below _ _ _ ∧ _›.1) | exact keepS ((‹Below _ _ _ ∧ _›.1).alloc (‹Below _ _ _ ∧ _›.1).size _) | exact keepS (‹Below _ _ _ ∧ _›.1) | exact keepS (Below.trans (‹Below _ _ _ ∧ _›.1) (by assumption))))
    ((first
     | (go_at_call 28; refine (wide_i _ _ _ h1 (by omega) (by omega) (by omega)).mono ?_; rintro e w2 ⟨v2, rfl, hown2, hb2⟩)
     | (refine step_of_wp rfl ?_; refine wp_app _ (.tmp 13) (.tmp 18) 24 rfl eByte_len eByte_one w1.heap.size 5 i0 (.int .u8 0) 1 Try.underlying24 hi hz0 hz1' hz2' rfl Nat.one_pos v2 3 (wide 3 l []) rfl ?_ (some _) 2 2 [b8 t, b8 f] rfl ?_ ?_ ?_ ?_ ?_; (first | (refine Own.mono hown2 ?_; (first | omega | (simp <;> omega))) | (refine Own.below (Own.mono hown2 ?_) (below_alloc _ _); (first | omega | (simp <;> omega)))); (first | (refine Sl.fresh eByte_len _ _ _ ?_ rfl; simp [eByte, b8]; omega) | (refine Sl.below (Sl.fresh eByte_len w1.drew _ [b8 t, b8 f] ?_ rfl) hb2; simp [eByte, b8]; omega)); (simp [maxLen]); omega; (have hz2 := hb2.size; simp at hz2; (first | omega | (simp <;> omega))); intro v3 w3 ap3; have hown3 := ap3.own; have hb3 := ap3.below)
     | fail))
  all_goals
    have hH := ‹Below _ _ _ ∧ _›
    have hB3 := Below.trans hB1 (hH.1.mono hB1.size)
    go_wp2_with (first
      | (go_at_call 28; refine (wide_i _ _ _ h3 (by omega) (by omega) (by omega)).mono ?_; rintro e w4 ⟨v4, rfl, hown4, hb4⟩; obtain ⟨A4, c4, rfl, hcap4, hmax4⟩ := hown4.isSlice; have hz4 := hb4.size; have hz3 := hH.1.size)
      | (at_builtin; refine wpList_app _ rfl (.tmp 20) (.tmp 23) 24 rfl eByte_len eByte_one w1.heap.size 5 i0 (.int .u8 0) 1 Try.underlying24 hi hz0 hz1' hz2' rfl Nat.one_pos v3 5 (wide 3 l [] ++ [b8 t, b8 f]) rfl (Own.below hown3 hb4) A4 4 c4 (wide 4 s []) rfl (Own.sl eByte_len hown4) (by simp [maxLen]) (by omega) (by omega) ?_; intro v5 w5 ap5; have hown5 := ap5.own; have hb5 := ap5.below; obtain ⟨A5, c5, rfl, hcap5, hmax5⟩ := hown5.isSlice))
    refine bodyPost_ret (v := .tuple #[.slice A5 9 c5, .int .i64 0]) (by simp [results, Try.results10, go_sem]) rfl ?_
    refine ⟨_, _, _, by rw [hc], ?_, hcap5, hmax5, (fun h => by cases h), ?_⟩
    · rw [if_pos hc, ← hbs_wide l t f s h1 h2 h3 h4]
      exact Own.sl eByte_len hown5
    · exact Below.trans (bstep hb4 hB3) (hb5.mono hB1.size)
theorem put_r (l t f s : Int) (w : World) (ht : 0 ≤ t) (ht' : t ≤ 255) (hf : 0 ≤ f) (hf' : f ≤ 255) :
    Calls Try.prog 10 #[.agg #[.int .i64 l, .int .u8 t, .int .u8 f, .int .i64 s]] w (PutPost false w l t f s) := by
  by_cases h : l < 0 ∨ 16777215 < l ∨ s < 0 ∨ 2147483647 < s
  · exact put_r_no l t f s w h
  · exact put_r_ok l t f s w (by omega) (by omega) (by omega) (by omega) ht ht' hf hf'
end Go.Proofs.Ytcnbeijlcndjpaa
