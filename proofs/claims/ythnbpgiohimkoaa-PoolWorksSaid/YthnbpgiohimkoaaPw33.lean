import Derived.Test.YthnbpgiohimkoaaPw31
set_option linter.unusedVariables false
namespace Go.Proofs.Gv
noncomputable def spG (f0 : FuncId) (sp : List AV → List Blk → Option (Bool × AV × List Blk)) (k : Gam) : Gam := fun f T C => match Nat.beq f f0 with
 | true => (sp T C).or (k f T C)
 | false => k f T C
theorem spG_ok {P : Program} {f0 : FuncId} {sp : List AV → List Blk → Option (Bool × AV × List Blk)} {k : Gam} (hk : GamOK P k) (hs : ∀ T C r outs, sp T C = some (true, r, outs) → Enters P f0 ∧ FnOK P f0 T C r (unk C outs)) : GamOK P (spG f0 sp k) := by
 intro f T C r outs h
 unfold spG at h
 cases hf : Nat.beq f f0 with
 | false => rw [hf] at h; exact hk f T C r outs h
 | true =>
   have hf' := Nat.eq_of_beq_eq_true hf
   subst hf'
   rw [hf] at h
   dsimp only at h
   cases hx : sp T C with
   | none => rw [hx] at h; exact hk _ T C r outs h
   | some x =>
     rw [hx] at h
     have hx' : x = (true, r, outs) := by simpa using h
     subst hx'
     exact hs T C r outs hx
end Go.Proofs.Gv
