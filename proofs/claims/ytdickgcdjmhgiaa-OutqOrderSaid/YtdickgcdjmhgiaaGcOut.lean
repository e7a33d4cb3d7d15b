import Derived.Test.YtdickgcdjmhgiaaGt
import Derived.KernelRfl
namespace Go.Proofs.Gv
open Go.Proofs
set_option linter.unusedVariables false
theorem mixed : Try.prog.follows .mixedOrders = true := by kernel_rfl
theorem plain : plainNames Try.prog = true := by kernel_rfl
def k0 : Gam := fun _ _ _ => none
theorem k0_ok : GamOK Try.prog k0 := GamOK.none _
noncomputable abbrev gk (k : Gam) : Nat → Gam := gamN Try.prog tab 100000 k
theorem gk_ok {k : Gam} (h : GamOK Try.prog k) (d : Nat) : GamOK Try.prog (gk k d) := gamN_ok mixed plain h d
def spW (ok : Bool) (x : Option (Bool × AV × List Blk)) : Option (Bool × AV × List Blk) :=
  match x with
  | some (_, r, o) => some (ok, r, o)
  | none => none
theorem fin_true {P : Program} {frz : Bool} {m : Nat} {ts : List TypeId} {x : Option (AV × List Blk)} {b : Bool} {r : AV} {o : List Blk} (h : fin P frz m ts x = some (b, r, o)) : b = true := by
  unfold fin at h
  split at h
  · split at h <;> (injection h with h; injection h with h; exact h.symm)
  · cases h
theorem spW_inv {P : Program} {frz : Bool} {m : Nat} {ts : List TypeId} {x : Option (AV × List Blk)} {ok : Bool} {r : AV} {o : List Blk} (h : spW ok (fin P frz m ts x) = some (true, r, o)) : ok = true ∧ fin P frz m ts x = some (true, r, o) := by
  unfold spW at h
  split at h
  · rename_i b r' o' he
    injection h with h
    injection h with h1 h
    injection h with h2 h3
    subst h1 h2 h3
    have := fin_true he
    subst this
    exact ⟨rfl, he⟩
  · cases h
noncomputable def vev23_0 (n : Int) : Bool := bif decide (n ≥ (0 : Int)) then bif true then decide (n ≤ (1099511627776 : Int)) else false else false
theorem ev23 (n : Int) : evFun (cfg Try.prog tab 100000 (gk k0 30) noLsp 23 ([] : List Blk).length Try.f23.ntmps) Try.f23 [.int .i64 n] [] = bif true then some (AV.bool (vev23_0 n), []) else none := by
  have h : evFun (cfg Try.prog tab 100000 (gk k0 30) noLsp 23 ([] : List Blk).length Try.f23.ntmps) Try.f23 [.int .i64 n] [] = bif bif decide (n ≥ (0 : Int)) then true else true then some (AV.bool (bif decide (n ≥ (0 : Int)) then bif true then decide (n ≤ (1099511627776 : Int)) else false else false), []) else none := by kernel_rfl
  rw [h]
  clear h
  unfold vev23_0
  generalize (decide (n ≥ (0 : Int))) = c0
  cases c0
  · skip
    rfl
  · skip
    rfl
-- spec true ;; (AV.bool (vev23_0 n), [])
noncomputable def sp23 : List AV → List Blk → Option (Bool × AV × List Blk)
  | [.int .i64 n], [] => spW (true) (fin Try.prog (tab.frz 23) ([] : List Blk).length Try.f23.resultTypes.toList (some ((AV.bool (vev23_0 n), []))))
  | _, _ => none
noncomputable def k23 : Gam := fun f T C => match Nat.beq f 23 with
  | true => (sp23 T C).or (k0 f T C)
  | false => k0 f T C
theorem k23_ok : GamOK Try.prog k23 := by
  intro f T C r outs h
  unfold k23 at h
  cases hf : Nat.beq f 23 with
  | false => rw [hf] at h; exact k0_ok f T C r outs h
  | true =>
    have hf' := Nat.eq_of_beq_eq_true hf
    subst hf'
    rw [hf] at h
    dsimp only at h
    cases hs : sp23 T C with
    | none => rw [hs] at h; exact k0_ok _ T C r outs h
    | some x =>
      rw [hs] at h
      have hx : x = (true, r, outs) := by simpa using h
      subst hx
      unfold sp23 at hs
      split at hs
      · rename_i n
        obtain ⟨hb, hs⟩ := spW_inv hs
        have he := ev23 n
        obtain ⟨h1, h2⟩ := fn_ok mixed plain (gk_ok k0_ok 30) Try.func23 (fun c _ => LoopsOK.none (fun _ _ => rfl) c) he
        exact ⟨h1, h2.fin hs⟩
      · cases hs
noncomputable def vev24_0 (n : Int) : Bool := bif decide (n ≥ (0 : Int)) then bif true then decide (n ≤ (1099511627776 : Int)) else false else false
theorem ev24 (n : Int) : evFun (cfg Try.prog tab 100000 (gk k23 30) noLsp 24 ([] : List Blk).length Try.f24.ntmps) Try.f24 [.int .i64 n] [] = bif true then some (AV.bool (vev24_0 n), []) else none := by
  have h : evFun (cfg Try.prog tab 100000 (gk k23 30) noLsp 24 ([] : List Blk).length Try.f24.ntmps) Try.f24 [.int .i64 n] [] = bif bif decide (n ≥ (0 : Int)) then true else true then some (AV.bool (bif decide (n ≥ (0 : Int)) then bif true then decide (n ≤ (1099511627776 : Int)) else false else false), []) else none := by kernel_rfl
  rw [h]
  clear h
  unfold vev24_0
  generalize (decide (n ≥ (0 : Int))) = c0
  cases c0
  · skip
    rfl
  · skip
    rfl
-- spec true ;; (AV.bool (vev24_0 n), [])
noncomputable def sp24 : List AV → List Blk → Option (Bool × AV × List Blk)
  | [.int .i64 n], [] => spW (true) (fin Try.prog (tab.frz 24) ([] : List Blk).length Try.f24.resultTypes.toList (some ((AV.bool (vev24_0 n), []))))
  | _, _ => none
noncomputable def k24 : Gam := fun f T C => match Nat.beq f 24 with
  | true => (sp24 T C).or (k23 f T C)
  | false => k23 f T C
theorem k24_ok : GamOK Try.prog k24 := by
  intro f T C r outs h
  unfold k24 at h
  cases hf : Nat.beq f 24 with
  | false => rw [hf] at h; exact k23_ok f T C r outs h
  | true =>
    have hf' := Nat.eq_of_beq_eq_true hf
    subst hf'
    rw [hf] at h
    dsimp only at h
    cases hs : sp24 T C with
    | none => rw [hs] at h; exact k23_ok _ T C r outs h
    | some x =>
      rw [hs] at h
      have hx : x = (true, r, outs) := by simpa using h
      subst hx
      unfold sp24 at hs
      split at hs
      · rename_i n
        obtain ⟨hb, hs⟩ := spW_inv hs
        have he := ev24 n
        obtain ⟨h1, h2⟩ := fn_ok mixed plain (gk_ok k23_ok 30) Try.func24 (fun c _ => LoopsOK.none (fun _ _ => rfl) c) he
        exact ⟨h1, h2.fin hs⟩
      · cases hs
end Go.Proofs.Gv
