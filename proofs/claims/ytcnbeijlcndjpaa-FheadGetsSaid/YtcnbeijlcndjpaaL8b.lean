/-
The walk of the statement FheadGets: whatever the bytes and the flags, it answers true and turns nothing that was there.
-/
import Derived.Test.YtcnbeijlcndjpaaAwake8
import Derived.Test.YtcnbeijlcndjpaaRdHead
namespace Go.Proofs.Ytcnbeijlcndjpaa
open Go.RowKit

theorem fheadGets_long (A : Option Addr) (n c : Nat) (g : Int) (w : World) (h : 30 < n) :
    Calls Try.prog 4 #[.slice A n c, .int .u8 g] w fun e w' => e = .returned (.bool true) ∧ Below w.heap.size w w' := by
  go_enter Try.func4, Try.ntmps4
  go_wp2_with (go_at_call 13; refine (awake8 _).mono ?_; rintro e w5 ⟨rfl, hb5⟩)
  go_ret
  exact ⟨rfl, hb5⟩
theorem fheadGets_short (A : Option Addr) (n c : Nat) (l : List UInt8) (g : Int) (w : World) (hs : Sl eByte 1 w A n l) (hnc : n ≤ c) (hc : c ≤ 9223372036854775807) (h : n ≤ 30) (hg : 0 ≤ g) (hg' : g ≤ 255) :
    Calls Try.prog 4 #[.slice A n c, .int .u8 g] w fun e w' => e = .returned (.bool true) ∧ Below w.heap.size w w' := by
  have hbd := hd_bounds l
  go_enter Try.func4, Try.ntmps4
  go_wp2_with fail
  refine (get_p _ _ _ _ _ hs (by omega)).mono ?_
  rintro e w1 ⟨rfl, hb1⟩
  have hB1 := bstep hb1 (w := w) (by (repeat (first | exact Below.refl _ _ | assumption | refine Below.drew ?_ | refine below_drewN ?_ _ | refine Below.alloc ?_ (by first | exact Nat.le_refl _ | omega | (simp; done) | (simp; omega)) _ | refine Below.setCell ?_ (by first | omega | (simp; done) | (simp; omega)) _))); have hz1 := hb1.size; (try simp only [World.size_alloc, World.heap_drewN, World.size_setCell, heap_drew, Nat.add_one_le_iff] at hz1)
  have hs1 := hs.below hB1
  rw [hdV]
  clear hb1
  generalize hk : hdE l = k at *
  have HK := Lib.hid hk
  clear hk
  generalize ha : (hd l).1 = a at *
  generalize hb : (hd l).2.1 = b at *
  generalize hf : (hd l).2.2.1 = f at *
  generalize he : (hd l).2.2.2 = s at *
  have hV : hdV l = .agg #[.int .i64 a, .int .u8 b, .int .u8 f, .int .i64 s] := by rw [hdV, ha, hb, hf, he]
  clear ha hb hf he
  have HV := Lib.hid hV
  clear hV
  obtain ⟨_, _, _, _, hf0, hf1, _, _⟩ := hbd
  go_wp2_with fail
  refine (get_r _ _ _ _ _ (hs1.below (below_alloc _ _)) hnc hc).mono ?_
  rintro e w2 ⟨rfl, hb2⟩
  have hx2 := (Box.new w1 #[.int .i64 a, .int .u8 b, .int .u8 f, .int .i64 s] 28).below hb2
  have hC2 := bstep hb2 (w := w1) (by (repeat (first | exact Below.refl _ _ | assumption | refine Below.drew ?_ | refine below_drewN ?_ _ | refine Below.alloc ?_ (by first | exact Nat.le_refl _ | omega | (simp; done) | (simp; omega)) _ | refine Below.setCell ?_ (by first | omega | (simp; done) | (simp; omega)) _))); have hB2 := bstep hC2 hB1; have hz2 := hb2.size; (try simp only [World.size_alloc, World.heap_drewN, World.size_setCell, heap_drew, Nat.add_one_le_iff] at hz2); clear hb2
  rw [HV.out, HK.out]
  go_wp2_with fail
  have hx3 := hx2.below (below_alloc w2 (.cells #[.int .i64 a, .int .u8 b, .int .u8 f, .int .i64 s] 23))
  have hy3 := Box.new w2 #[.int .i64 a, .int .u8 b, .int .u8 f, .int .i64 s] 23
  have hB3 := (hB2.alloc hB2.size (.cells #[.int .i64 a, .int .u8 b, .int .u8 f, .int .i64 s] 23))
  generalize w2.alloc (.cells #[.int .i64 a, .int .u8 b, .int .u8 f, .int .i64 s] 23) = w3 at *
  have hS : ∀ w', Below w3.heap.size w3 w' → (Below w3.heap.size w3 w' ∧ (∀ o, w'.cell? ⟨w1.heap.size, o, none⟩ = (#[.int .i64 a, .int .u8 b, .int .u8 f, .int .i64 s] : Array Value)[o]?) ∧ (∀ o, w'.cell? ⟨w2.heap.size, o, none⟩ = (#[.int .i64 a, .int .u8 b, .int .u8 f, .int .i64 s] : Array Value)[o]?)) :=
    fun w' hb => ⟨hb, (hx3.below hb).2, (hy3.below hb).2⟩
  go_region_held3 (fun w' => (Below w3.heap.size w3 w' ∧ (∀ o, w'.cell? ⟨w1.heap.size, o, none⟩ = (#[.int .i64 a, .int .u8 b, .int .u8 f, .int .i64 s] : Array Value)[o]?) ∧ (∀ o, w'.cell? ⟨w2.heap.size, o, none⟩ = (#[.int .i64 a, .int .u8 b, .int .u8 f, .int .i64 s] : Array Value)[o]?))) ((refine hS _ ?_; repeat (first | (with_reducible exact Below.refl _ _) | (with_reducible assumption) | (with_reducible exact (‹Below _ _ _ ∧ _›).1) | (with_reducible refine Below.drew ?_) | (with_reducible refine Below.alloc ?_ ?_ _; rotate_left; (first | exact Nat.le_refl _ | omega | (simp; done) | (simp; omega) | exact (‹Below _ _ _ ∧ _›).1.size | (have hzz := (‹Below _ _ _ ∧ _›).1.size; simp at hzz; simp; omega))) | (with_reducible refine Below.setCell ?_ ?_ _; rotate_left; (first | exact Nat.le_refl _ | omega | (simp; done) | (simp; omega) | exact (‹Below _ _ _ ∧ _›).1.size | (have hzz := (‹Below _ _ _ ∧ _›).1.size; simp at hzz; simp; omega))) | (with_reducible refine bstep_at (by assumption) (‹Below _ _ _ ∧ _›).1 (‹Below _ _ _ ∧ _›).1.size))))
   ((first
     | (go_at_call 16; refine (has_p _ _ _ _ _ _).mono ?_; rintro e w4 ⟨rfl, hb4⟩)
     | (go_at_call 17; refine (has_r _ _ _ hf0 hf1 hg hg').mono ?_; rintro e w5 ⟨rfl, rfl⟩)
     | (go_at_call 13; refine (awake8 _).mono ?_; rintro e w6 ⟨rfl, hb6⟩)
     | fail))
  go_wp2_with fail
  go_ret
  exact ⟨rfl, bstep (‹Below _ _ _ ∧ _›).1 hB3⟩
theorem fheadGets_all (A : Option Addr) (n c : Nat) (l : List UInt8) (g : Int) (w : World) (hs : Sl eByte 1 w A n l) (hnc : n ≤ c) (hc : c ≤ maxLen) (_hok : ∀ x ∈ l, True) (_hz : n * 1 ≤ 140737488351232) (hg : (Lit.int .u8 g).wf = true) :
    Calls Try.prog 4 #[.slice A n c, .int .u8 g] w fun e w' => e = .returned (.bool true) ∧ Below w.heap.size w w' := by
  have hg := wfb_u8 hg
  simp only [maxLen] at hc
  by_cases h : 30 < n
  · exact fheadGets_long A n c g w h
  · exact fheadGets_short A n c l g w hs hnc (by omega) (by omega) hg.1 hg.2
end Go.Proofs.Ytcnbeijlcndjpaa
