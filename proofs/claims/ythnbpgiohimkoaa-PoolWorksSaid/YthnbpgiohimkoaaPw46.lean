import Derived.Test.YthnbpgiohimkoaaPw31
set_option linter.unusedVariables false
namespace Go.Proofs.Gv
def memoG (f : FuncId) (T : List AV) (C : List Blk) (r : AV) (outs : List Blk) (k : Gam) : Gam :=
 fun f' T' C' => cond (Nat.beq f' f && (AV.eqL T' T && Blk.eqL C' C)) (some (true, r, outs)) (k f' T' C')
theorem memoG_ok {P : Program} {f : FuncId} {T : List AV} {C : List Blk} {r : AV} {outs : List Blk} {k g : Gam} (hk : GamOK P k) (hg : GamOK P g) (h : g f T C = some (true, r, outs)) : GamOK P (memoG f T C r outs k) := by
 intro f' T' C' r' outs' h'
 unfold memoG at h'
 cases hc : (Nat.beq f' f && (AV.eqL T' T && Blk.eqL C' C)) with
 | false => rw [hc] at h'; exact hk f' T' C' r' outs' h'
 | true =>
   rw [hc] at h'
   simp only [cond_true, Option.some.injEq, Prod.mk.injEq, true_and] at h'
   obtain ⟨rfl, rfl⟩ := h'
   simp only [Bool.and_eq_true, Nat.beq_eq] at hc
   obtain ⟨rfl, h1, h2⟩ := hc
   have e1 := AV.eqL_of _ _ h1
   have e2 := Blk.eqL_of _ _ h2
   subst e1 e2
   exact hg f' T' C' r outs h
end Go.Proofs.Gv
