/-
Aging: Serve, on both sides.
-/
import Derived.Test.YtgaadhlneglidaaGpAgG
namespace Go.Proofs.Gv
open Go.Proofs
set_option linter.unusedVariables false
variable {tk tk2 : Tk} {es es2 : List (List AV)} {l l2 id rank cost q : Int}
def mn (x : Int) : Int := if x < 2000 then x else 2000
theorem mn_a (x : Int) : (if if false = true then x < (2000 : Int) else (2000 : Int) < x then (2000 : Int) else x) = mn x := by
  unfold mn
  simp only [Bool.false_eq_true, if_false]
  split <;> split <;> omega
theorem mn_b (x : Int) : (if if false = true then (2000 : Int) < x else x < (2000 : Int) then x else (2000 : Int)) = mn x := by
  unfold mn
  simp only [Bool.false_eq_true, if_false]
theorem mq_a (x q : Int) : (if if false = true then x < q else q < x then q else x) = (if if false = true then q < x else x < q then x else q) := by
  simp only [Bool.false_eq_true, if_false]
  split <;> split <;> omega
/-- One request is passed once more. -/
def st3 (b : List (List AV)) (i : Nat) : List (List AV) := b.set i [.int .i64 (q0 b i), .int .i64 (q1 b i), .int .i64 (q2 b i), .int .i64 (mn (IntKind.i64.wrap (q3 b i + 1)))]
def ag (es : List (List AV)) : Nat → List (List AV)
  | 0 => es
  | i + 1 => st3 (ag es i) i
theorem ag_len (es : List (List AV)) : ∀ i, (ag es i).length = es.length
  | 0 => rfl
  | i + 1 => by
    show (st3 (ag es i) i).length = _
    unfold st3
    rw [List.length_set, ag_len es i]
theorem ends14 {k : Nat} (hk : k ≤ es.length) (hN : es.length ≤ 1000) : Ends (g14_5 (q, (k : Int), (k : Int), l, 0, 0, 0, 0, 0)) (n14_5 (q, (k : Int), (k : Int), l, 0, 0, 0, 0, 0)) ((0 : Int), es) ((k : Int), ag es k) := by
  refine Ends.count (go := g14_5 (q, (k : Int), (k : Int), l, 0, 0, 0, 0, 0)) (next := n14_5 (q, (k : Int), (k : Int), l, 0, 0, 0, 0, 0)) k (fun i => ((i : Int), ag es i)) (fun i hi => ?_) ?_
  · have hl := ag_len es i
    constructor
    · show go14_5 q (k : Int) (k : Int) (i : Int) l 0 0 0 0 0 (ag es i) = true
      unfold go14_5
      rw [hl, decide_eq_true (show (i : Int) < (k : Int) by omega), decide_eq_true (show (0 : Int) ≤ (i : Int) by omega), decide_eq_true (show (i : Int) < (es.length : Int) by omega)]
      rfl
    · show (nx14_5_3 q (k : Int) (k : Int) (i : Int) l 0 0 0 0 0 (ag es i), nx14_5_10 q (k : Int) (k : Int) (i : Int) l 0 0 0 0 0 (ag es i)) = _
      unfold nx14_5_3 nx14_5_10 rn14_5_0
      rw [nxt i k hi (by omega), Int.toNat_natCast, mn_a]
      rfl
  · show go14_5 q (k : Int) (k : Int) (k : Int) l 0 0 0 0 0 (ag es k) = false
    unfold go14_5
    rw [decide_eq_false (by omega)]
    rfl
theorem ends15 {k : Nat} (hk : k ≤ es.length) (hN : es.length ≤ 1000) : Ends (g15_7 (q, (k : Int), l, es, 0, 0, 0, 0, 0)) (n15_7 (q, (k : Int), l, es, 0, 0, 0, 0, 0)) ((0 : Int), es) ((k : Int), ag es k) := by
  refine Ends.count (go := g15_7 (q, (k : Int), l, es, 0, 0, 0, 0, 0)) (next := n15_7 (q, (k : Int), l, es, 0, 0, 0, 0, 0)) k (fun i => ((i : Int), ag es i)) (fun i hi => ?_) ?_
  · have hl := ag_len es i
    constructor
    · show go15_7 q (k : Int) (i : Int) l es 0 0 0 0 0 (ag es i) = true
      unfold go15_7
      rw [hl, decide_eq_true (show (i : Int) < (k : Int) by omega), decide_eq_true (show (0 : Int) ≤ (i : Int) by omega), decide_eq_true (show (i : Int) < (es.length : Int) by omega)]
      rfl
    · show (nx15_7_2 q (k : Int) (i : Int) l es 0 0 0 0 0 (ag es i), nx15_7_10 q (k : Int) (i : Int) l es 0 0 0 0 0 (ag es i)) = _
      unfold nx15_7_2 nx15_7_10 rn15_7_0
      rw [nxt i k hi (by omega), Int.toNat_natCast, mn_b]
      rfl
  · show go15_7 q (k : Int) (k : Int) l es 0 0 0 0 0 (ag es k) = false
    unfold go15_7
    rw [decide_eq_false (by omega)]
    rfl
end Go.Proofs.Gv
