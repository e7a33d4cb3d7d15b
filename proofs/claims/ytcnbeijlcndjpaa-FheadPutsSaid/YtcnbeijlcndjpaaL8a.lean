/-
The walk of the statement FheadPuts: whatever the head, it answers true and turns nothing that was there.
-/
import Derived.Test.YtcnbeijlcndjpaaAwake8
import Derived.Test.YtcnbeijlcndjpaaRdHead
namespace Go.Proofs.Ytcnbeijlcndjpaa
open Go.RowKit

theorem fheadPuts_walk (l t f s : Int) (w : World) (ht : 0 ≤ t) (ht' : t ≤ 255) (hf : 0 ≤ f) (hf' : f ≤ 255) :
    Calls Try.prog 3 #[.agg #[.int .i64 l, .int .u8 t, .int .u8 f, .int .i64 s]] w fun e w' => e = .returned (.bool true) ∧ Below w.heap.size w w' := by
  go_enter Try.func3, Try.ntmps3
  go_wp2_with fail
  refine (put_p _ _ _ _ _ ht ht' hf hf').mono ?_
  rintro e w1 ⟨A1, n1, c1, rfl, hs1, _, _, _, hb1⟩
  have hB1 := bstep hb1 (w := w) (by (repeat (first | exact Below.refl _ _ | assumption | refine Below.drew ?_ | refine below_drewN ?_ _ | refine Below.alloc ?_ (by first | exact Nat.le_refl _ | omega | (simp; done) | (simp; omega)) _ | refine Below.setCell ?_ (by first | omega | (simp; done) | (simp; omega)) _))); have hz1 := hb1.size; (try simp only [World.size_alloc, World.heap_drewN, World.size_setCell, heap_drew, Nat.add_one_le_iff] at hz1)
  have hx1 := (Box.new w #[.int .i64 l, .int .u8 t, .int .u8 f, .int .i64 s] 23).below hb1
  clear hb1
  have hx1' := hx1.2
  go_wp2_with fail
  refine (put_r _ _ _ _ _ ht ht' hf hf').mono ?_
  rintro e w2 ⟨A2, n2, c2, rfl, hs2, _, _, _, hb2⟩
  have hC2 := bstep hb2 (w := w1) (by (repeat (first | exact Below.refl _ _ | assumption | refine Below.drew ?_ | refine below_drewN ?_ _ | refine Below.alloc ?_ (by first | exact Nat.le_refl _ | omega | (simp; done) | (simp; omega)) _ | refine Below.setCell ?_ (by first | omega | (simp; done) | (simp; omega)) _))); have hB2 := bstep hC2 hB1; have hz2 := hb2.size; (try simp only [World.size_alloc, World.heap_drewN, World.size_setCell, heap_drew, Nat.add_one_le_iff] at hz2); clear hb2
  have hx2 := hx1.below hC2
  have hs1 := hs1.below hC2
  clear hx1 hx1'
  generalize hq : (if hchk l s = 0 then hbs l t f s else []) = q at *
  clear hq
  generalize hk : hchk l s = k at *
  have HK := Lib.hid hk
  clear hk
  go_wp2_with fail
  have hS : ∀ w', Below w2.heap.size w2 w' → (Below w2.heap.size w2 w' ∧ (∀ o, w'.cell? ⟨w.heap.size, o, none⟩ = (#[.int .i64 l, .int .u8 t, .int .u8 f, .int .i64 s] : Array Value)[o]?) ∧ (convert 24 9 (.slice A1 n1 c1)).run Try.prog w' = .ok (.string ⟨q.toArray⟩) w' ∧ (convert 24 9 (.slice A2 n2 c2)).run Try.prog w' = .ok (.string ⟨q.toArray⟩) w') :=
    fun w' hb => ⟨hb, (hx2.below hb).2, (hs1.below hb).toStr _ _ Try.underlying24 Try.underlying5 _ Try.underlying9, (hs2.below hb).toStr _ _ Try.underlying24 Try.underlying5 _ Try.underlying9⟩
  go_region_held3 (fun w' => (Below w2.heap.size w2 w' ∧ (∀ o, w'.cell? ⟨w.heap.size, o, none⟩ = (#[.int .i64 l, .int .u8 t, .int .u8 f, .int .i64 s] : Array Value)[o]?) ∧ (convert 24 9 (.slice A1 n1 c1)).run Try.prog w' = .ok (.string ⟨q.toArray⟩) w' ∧ (convert 24 9 (.slice A2 n2 c2)).run Try.prog w' = .ok (.string ⟨q.toArray⟩) w')) ((refine hS _ ?_; repeat (first | (with_reducible exact Below.refl _ _) | (with_reducible assumption) | (with_reducible exact (‹Below _ _ _ ∧ _›).1) | (with_reducible refine Below.drew ?_) | (with_reducible refine Below.alloc ?_ ?_ _; rotate_left; (first | exact Nat.le_refl _ | omega | (simp; done) | (simp; omega) | exact (‹Below _ _ _ ∧ _›).1.size | (have hzz := (‹Below _ _ _ ∧ _›).1.size; simp at hzz; simp; omega))) | (with_reducible refine Below.setCell ?_ ?_ _; rotate_left; (first | exact Nat.le_refl _ | omega | (simp; done) | (simp; omega) | exact (‹Below _ _ _ ∧ _›).1.size | (have hzz := (‹Below _ _ _ ∧ _›).1.size; simp at hzz; simp; omega))) | (with_reducible refine bstep_at (by assumption) (‹Below _ _ _ ∧ _›).1 (‹Below _ _ _ ∧ _›).1.size))))
   ((first
     | (go_at_call 11; refine (check_p _ _ _ _ _).mono ?_; rw [HK.out]; rintro e w3 ⟨rfl, hb3⟩)
     | (go_at_call 12; refine (check_r _ _ _ _ _).mono ?_; rw [HK.out]; rintro e w4 ⟨rfl, hb4⟩)
     | (go_at_call 13; refine (awake8 _).mono ?_; rintro e w5 ⟨rfl, hb5⟩)
     | fail))
  go_wp2_with fail
  go_ret
  exact ⟨rfl, bstep (‹Below _ _ _ ∧ _›).1 hB2⟩
theorem fheadPuts_all (x : Hd) (w : World) (ok : okHd x) :
    Calls Try.prog 3 #[.agg (eHd x).toArray] w fun e w' => e = .returned (.bool true) ∧ Below w.heap.size w w' := by
  obtain ⟨l, t, f, s⟩ := x
  exact fheadPuts_walk l t f s w ok.2.1.1 ok.2.1.2 ok.2.2.1.1 ok.2.2.1.2
end Go.Proofs.Ytcnbeijlcndjpaa
