/-
Unack: copies; who is like whom; what is small enough.
-/
import Derived.Test.YtogfdnopjgpdiaaGpUB
namespace Go.Proofs.Gv
open Go.Proofs
set_option linter.unusedVariables false
variable {tk tk2 : Tk} {es es2 : List (List AV)}
/-- Items as they should be. -/
def Fm (es : List (List AV)) : Prop := ∀ e ∈ es, ∃ ps s, e = [.sl .imm [.int .u16, .int .u32] ps, .int .i64 s]
theorem Fm.at (h : Fm es) {i : Nat} (hi : i < es.length) : [[AV.sl Tk.imm [Kd.int IntKind.u16, Kd.int IntKind.u32] (elsO ((es.getD i []).getD 0 AV.junk)), AV.int IntKind.i64 (intOf ((es.getD i []).getD (0 + 1) AV.junk))]] = [es[i]] := by
  obtain ⟨ps, s, e⟩ := h es[i] (List.getElem_mem hi)
  have : es.getD i [] = es[i] := by simp [List.getD, hi]
  rw [this, e]
  rfl
theorem take1 {i : Nat} (hi : i < es.length) : es.take i ++ [es[i]] = es.take (i + 1) := by simp
theorem r9 (hN : es.length * 32 ≤ 140737488355328) (hf : Fm es) : vev9_0 es = es ∧ vev9_1 es = true := by
  have h := (Ends.count (go := g9_3 es) (next := n9_3 es) es.length (fun i => ((i : Int), es.take i)) (fun i hi => by
    have hl : (es.take i).length = i := by rw [List.length_take]; omega
    refine ⟨?_, ?_⟩
    · show go9_3 es (i : Int) (es.take i) = true
      unfold go9_3 rn9_3_0
      rw [dge, dlt, Int.toNat_natCast, decide_eq_true hi, hl]
      simp only [List.length_cons, List.length_nil]
      rw [decide_eq_true (show (i + (0 + 1)) * 32 ≤ 140737488355328 by omega), decide_eq_true (show i + (0 + 1) ≤ 9223372036854775807 by omega)]
      rfl
    · show (nx9_3_1 es (i : Int) (es.take i), nx9_3_2 es (i : Int) (es.take i)) = _
      unfold nx9_3_1 nx9_3_2 rn9_3_0
      rw [step64 i _ hi (by omega), Int.toNat_natCast, hf.at hi, take1 hi]) (by
    show go9_3 es (es.length : Int) _ = false
    unfold go9_3
    rw [dlt, decide_eq_false (by omega)]
    rfl)).fin
  unfold vev9_0 vev9_1 rev9_0
  simp only [spI]
  rw [show ((0 : Int), ([] : List (List AV))) = (((0 : Nat) : Int), es.take 0) from rfl, h.2, h.1, List.take_of_length_le (Nat.le_refl _)]
  refine ⟨rfl, ?_⟩
  unfold z9_3 xc9_3_0
  dsimp only
  rw [dlt, decide_eq_false (by omega)]
  rfl
theorem r15 (hN : es.length ≤ 1000) (hf : Fm es) : vev15_0 tk es = es ∧ vev15_1 tk es = true := by
  have h := (Ends.count (go := g15_3 (tk, es)) (next := n15_3 (tk, es)) es.length (fun i => ((i : Int), es.take i)) (fun i hi => by
    have hl : (es.take i).length = i := by rw [List.length_take]; omega
    refine ⟨?_, ?_⟩
    · show go15_3 tk es (i : Int) (es.take i) = true
      unfold go15_3 rn15_3_0
      rw [dge, dlt, Int.toNat_natCast, decide_eq_true hi, hl]
      simp only [List.length_cons, List.length_nil]
      rw [decide_eq_true (show (i + (0 + 1)) * 32 ≤ 140737488355328 by omega), decide_eq_true (show i + (0 + 1) ≤ 9223372036854775807 by omega)]
      rfl
    · show (nx15_3_2 tk es (i : Int) (es.take i), nx15_3_3 tk es (i : Int) (es.take i)) = _
      unfold nx15_3_2 nx15_3_3 rn15_3_0
      rw [step64 i _ hi (by omega), Int.toNat_natCast, hf.at hi, take1 hi]) (by
    show go15_3 tk es (es.length : Int) _ = false
    unfold go15_3
    rw [dlt, decide_eq_false (by omega)]
    rfl)).fin
  unfold vev15_0 vev15_1 rev15_0
  simp only [spI]
  rw [show ((0 : Int), ([] : List (List AV))) = (((0 : Nat) : Int), es.take 0) from rfl, h.2, h.1, List.take_of_length_le (Nat.le_refl _)]
  refine ⟨rfl, ?_⟩
  unfold z15_3 xc15_3_0
  dsimp only
  rw [dlt, decide_eq_false (by omega)]
  rfl
/-- Are two queues one? -/
def sameQ (es es2 : List (List AV)) : Bool := bif ((es.length : Int) != (es2.length : Int)) then false else bif hasF (df es es2) 0 es.length then false else true
theorem r37 (hN : es.length ≤ 1000) (hS : Sh es) : vev37_0 tk es tk2 es2 = sameQ es es2 ∧ vev37_1 tk es tk2 es2 = true := by
  unfold vev37_0 vev37_1 rev37_0 sameQ
  by_cases hE : es.length = es2.length
  · have h := sk37_4 (tk := tk) (tk2 := tk2) hN hE hS
    rw [h.1, h.2.1, h.2.2, show ((es.length : Int) != (es2.length : Int)) = false by simp [hE]]
    exact ⟨rfl, rfl⟩
  · rw [show ((es.length : Int) != (es2.length : Int)) = true by simp; omega]
    exact ⟨rfl, rfl⟩
theorem r14 (hN : es.length ≤ 1000) (hS : Sh es) : vev14_0 tk es tk2 es2 = sameQ es es2 ∧ vev14_1 tk es tk2 es2 = true := by
  unfold vev14_0 vev14_1 rev14_0 sameQ
  by_cases hE : es.length = es2.length
  · have h := sk14_4 (tk := tk) (tk2 := tk2) hN hE hS
    rw [h.1, h.2.1, h.2.2, show ((es.length : Int) != (es2.length : Int)) = false by simp [hE]]
    exact ⟨rfl, rfl⟩
  · rw [show ((es.length : Int) != (es2.length : Int)) = true by simp; omega]
    exact ⟨rfl, rfl⟩
theorem sameP_refl (l : List (List AV)) : sameP l l = true := by
  unfold sameP
  rw [hasF_no.2 (fun i h1 h2 => by simp)]
  simp
theorem sameQ_refl (es : List (List AV)) : sameQ es es = true := by
  unfold sameQ
  rw [hasF_no.2 (fun i h1 h2 => by unfold df; rw [sameP_refl]; simp)]
  simp
/-- What Light asks. -/
theorem r7 : vev7_1 tk es = true ∧ (vev7_0 tk es = true → es.length ≤ 8 ∧ ∀ i, i < es.length → (pr es i).length ≤ 20) := by
  unfold vev7_0 vev7_1 rev7_0
  by_cases h8 : es.length ≤ 8
  · have h := sk7_4 (tk := tk) (es := es) (by omega)
    rw [h.1, h.2.1, h.2.2, decide_eq_false (show ¬ (es.length : Int) > 8 by omega)]
    refine ⟨rfl, fun hl => ⟨h8, fun i hi => ?_⟩⟩
    cases hc : hasF (fun i => decide (((pr es i).length : Int) > 20)) 0 es.length with
    | true => rw [hc] at hl; cases hl
    | false =>
      have := hasF_no.1 hc i (Nat.zero_le _) hi
      simp at this
      omega
  · rw [decide_eq_true (show (es.length : Int) > 8 by omega)]
    exact ⟨rfl, fun h => by cases h⟩
end Go.Proofs.Gv
