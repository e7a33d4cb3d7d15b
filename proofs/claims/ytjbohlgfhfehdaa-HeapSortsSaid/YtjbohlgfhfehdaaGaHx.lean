/-
Less, and the closure that Sorted hands to the library: walked.
-/
import Derived.WalkKit
import Derived.Test.YtjbohlgfhfehdaaGpHB
import Derived.Sort.Grow
import Derived.Deep.Draws
import Derived.Test.YtjbohlgfhfehdaaProg
namespace Go.Proofs.Gv
open Go.Proofs Go.Sort Go.RowKit
/-- Blocks are laid, and nothing else. -/
def Grw (W w : World) : Prop := ∃ os, w = grow W os
theorem Grw.refl (W : World) : Grw W W := ⟨#[], by simp⟩
theorem Grw.trans {a b c : World} (h : Grw a b) (k : Grw b c) : Grw a c := by
  obtain ⟨o1, rfl⟩ := h
  obtain ⟨o2, rfl⟩ := k
  exact ⟨_, grow_grow _ _ _⟩
theorem Grw.alloc (W : World) (o : Obj) : Grw W (W.alloc o) := ⟨_, alloc_eq_grow W o⟩
theorem Grw.cell {W w : World} (h : Grw W w) {a : Addr} {v : Value} (hb : a.block < W.heap.size) (hv : W.cell? a = some v) : w.cell? a = some v := by
  obtain ⟨os, rfl⟩ := h
  rw [cell?_grow _ _ _ hb]
  exact hv
theorem Grw.two {W w : World} {x1 x2 y1 y2 : Value} {t u : TypeId} (h : Grw ((W.alloc (.cells #[x1, x2] t)).alloc (.cells #[y1, y2] u)) w) :
    (w.cell? ⟨W.heap.size, 0, none⟩ = some x1 ∧ w.cell? ⟨W.heap.size, 1, none⟩ = some x2) ∧ w.cell? ⟨W.heap.size + 1, 0, none⟩ = some y1 ∧ w.cell? ⟨W.heap.size + 1, 1, none⟩ = some y2 := by
  have e : ((W.alloc (.cells #[x1, x2] t)).alloc (.cells #[y1, y2] u)).heap = (W.heap.push (.cells #[x1, x2] t)).push (.cells #[y1, y2] u) := rfl
  have e0 : ((W.heap.push (.cells #[x1, x2] t)).push (.cells #[y1, y2] u))[W.heap.size]? = some (.cells #[x1, x2] t) := by
    rw [Array.getElem?_push, if_neg (by simp), Array.getElem?_push, if_pos rfl]
  have e1 : ((W.heap.push (.cells #[x1, x2] t)).push (.cells #[y1, y2] u))[W.heap.size + 1]? = some (.cells #[y1, y2] u) := by
    rw [Array.getElem?_push, if_pos (by simp)]
  refine ⟨⟨h.cell ?_ ?_, h.cell ?_ ?_⟩, h.cell ?_ ?_, h.cell ?_ ?_⟩ <;> first | (rw [e]; simp; done) | (rw [e]; simp; omega) | (simp only [World.cell?, e, e0]; rfl) | (simp only [World.cell?, e, e1]; rfl)
set_option maxHeartbeats 1000000 in
theorem less15 (x y : Int × Int) (W : World) : Calls Try.prog 15 #[.agg #[.int .i64 x.1, .int .i64 x.2], .agg #[.int .i64 y.1, .int .i64 y.2]] W fun e w' => e = .returned (.bool (ltI x y)) ∧ Grw W w' := by
  unfold ltI
  obtain ⟨x1, x2⟩ := x
  obtain ⟨y1, y2⟩ := y
  dsimp only
  by_cases h1 : x1 < y1
  · rw [decide_eq_true h1, Bool.true_or]
    go_enter Try.func15, Try.ntmps15
    go_wp2
    go_ret
    exact ⟨rfl, (Grw.alloc _ _).trans (Grw.alloc _ _)⟩
  · by_cases h2 : x1 = y1
    · subst h2
      by_cases h3 : x2 < y2
      · rw [decide_eq_false h1, decide_eq_true h3, beq_self_eq_true, Bool.false_or, Bool.true_and]
        go_enter Try.func15, Try.ntmps15
        go_wp2
        go_ret
        exact ⟨rfl, (Grw.alloc _ _).trans (Grw.alloc _ _)⟩
      · rw [decide_eq_false h1, decide_eq_false h3, beq_self_eq_true, Bool.false_or, Bool.true_and]
        go_enter Try.func15, Try.ntmps15
        go_wp2
        go_ret
        exact ⟨rfl, (Grw.alloc _ _).trans (Grw.alloc _ _)⟩
    · have h4 : (x1 == y1) = false := by simpa using h2
      rw [decide_eq_false h1, h4, Bool.false_and, Bool.or_false]
      go_enter Try.func15, Try.ntmps15
      go_wp2
      go_ret
      exact ⟨rfl, (Grw.alloc _ _).trans (Grw.alloc _ _)⟩
def cfI (x y : Int × Int) : Int := bif ltI x y then -1 else bif ltI y x then 1 else 0
set_option maxHeartbeats 2000000 in
theorem cmp28 (x y : Int × Int) (W : World) : Calls Try.prog 28 #[.agg #[.int .i64 x.1, .int .i64 x.2], .agg #[.int .i64 y.1, .int .i64 y.2]] W fun e w' => e = .returned (.int .i64 (cfI x y)) ∧ Grw W w' := by
  have h1 := fun W' => less15 x y W'
  have h2 := fun W' => less15 y x W'
  unfold cfI
  obtain ⟨x1, x2⟩ := x
  obtain ⟨y1, y2⟩ := y
  dsimp only at h1 h2 ⊢
  generalize ltI (x1, x2) (y1, y2) = a at h1 ⊢
  generalize ltI (y1, y2) (x1, x2) = b at h2 ⊢
  cases a
  · cases b
    · go_enter Try.func28, Try.ntmps28
      go_wp2_with (go_at_call 15; first | ((with_reducible refine (h1 _).mono ?_); rintro e w1 ⟨rfl, hw⟩; obtain ⟨⟨c0, c1⟩, c2, c3⟩ := hw.two) | ((with_reducible refine (h2 _).mono ?_); rintro e w2 ⟨rfl, hw2⟩) | fail)
      go_ret
      exact ⟨rfl, (Grw.alloc _ _).trans ((Grw.alloc _ _).trans (hw.trans hw2))⟩
    · go_enter Try.func28, Try.ntmps28
      go_wp2_with (go_at_call 15; first | ((with_reducible refine (h1 _).mono ?_); rintro e w1 ⟨rfl, hw⟩; obtain ⟨⟨c0, c1⟩, c2, c3⟩ := hw.two) | ((with_reducible refine (h2 _).mono ?_); rintro e w2 ⟨rfl, hw2⟩) | fail)
      go_ret
      exact ⟨rfl, (Grw.alloc _ _).trans ((Grw.alloc _ _).trans (hw.trans hw2))⟩
  · go_enter Try.func28, Try.ntmps28
    go_wp2_with (go_at_call 15; refine (h1 _).mono ?_; rintro e w1 ⟨rfl, hw⟩)
    go_ret
    exact ⟨rfl, (Grw.alloc _ _).trans ((Grw.alloc _ _).trans hw)⟩
end Go.Proofs.Gv
