import Derived.Test.YthnbpgiohimkoaaPw30
set_option linter.unusedVariables false
namespace Go.Proofs.Gv
section
variable {α : Type} {go : α → Bool} {next : α → α}
theorem Ends.count (N : Nat) (f : Nat → α) (hs : ∀ i, i < N → go (f i) = true ∧ next (f i) = f (i + 1)) (he : go (f N) = false) : Ends go next (f 0) (f N) := by
 have key : ∀ m i, i + m = N → Ends go next (f i) (f N) := by
  intro m
  induction m with
  | zero => intro i hi; rw [show i = N by omega]; exact Ends.stop he
  | succ m ih =>
    intro i hi
    obtain ⟨h1, h2⟩ := hs i (by omega)
    refine Ends.step h1 ?_
    rw [h2]
    exact ih (i + 1) (by omega)
 exact key N 0 (by omega)
theorem take_step {β : Type} {l : List β} {i : Nat} (d : β) (h : i < l.length) : l.take (i + 1) = l.take i ++ [l.getD i d] := by
 rw [List.take_add_one]
 simp [List.getD, h]
end
end Go.Proofs.Gv
