import Derived.Test.YteomgnfnigflnaaGt
import Derived.KernelRfl
namespace Go.Proofs.Gv
open Go.Proofs
set_option linter.unusedVariables false
theorem mixed : Try.prog.follows .mixedOrders = true := by kernel_rfl
theorem plain : plainNames Try.prog = true := by kernel_rfl
def k0 : Gam := fun _ _ _ => none
theorem k0_ok : GamOK Try.prog k0 := GamOK.none _
noncomputable abbrev gk (k : Gam) : Nat → Gam := gamN Try.prog tab 100000 k
theorem gk_ok {k : Gam} (h : GamOK Try.prog k) (d : Nat) : GamOK Try.prog (gk k d) := gamN_ok mixed plain h d
def spW (ok : Bool) (x : Option (Bool × AV × List Blk)) : Option (Bool × AV × List Blk) :=
  match x with
  | some (_, r, o) => some (ok, r, o)
  | none => none
theorem fin_true {P : Program} {frz : Bool} {m : Nat} {ts : List TypeId} {x : Option (AV × List Blk)} {b : Bool} {r : AV} {o : List Blk} (h : fin P frz m ts x = some (b, r, o)) : b = true := by
  unfold fin at h
  split at h
  · split at h <;> (injection h with h; injection h with h; exact h.symm)
  · cases h
theorem spW_inv {P : Program} {frz : Bool} {m : Nat} {ts : List TypeId} {x : Option (AV × List Blk)} {ok : Bool} {r : AV} {o : List Blk} (h : spW ok (fin P frz m ts x) = some (true, r, o)) : ok = true ∧ fin P frz m ts x = some (true, r, o) := by
  unfold spW at h
  split at h
  · rename_i b r' o' he
    injection h with h
    injection h with h1 h
    injection h with h2 h3
    subst h1 h2 h3
    have := fin_true he
    subst this
    exact ⟨rfl, he⟩
  · cases h
noncomputable def vev28_0 (n : Int) (m : Int) : Bool := bif decide ((0 : Int) ≤ n) then bif true then decide (n ≤ m) else false else false
theorem ev28 (n : Int) (m : Int) : evFun (cfg Try.prog tab 100000 (gk k0 30) noLsp 28 ([] : List Blk).length Try.f28.ntmps) Try.f28 [.int .i64 n, .int .i64 m] [] = bif true then some (AV.bool (vev28_0 n m), []) else none := by
  have h : evFun (cfg Try.prog tab 100000 (gk k0 30) noLsp 28 ([] : List Blk).length Try.f28.ntmps) Try.f28 [.int .i64 n, .int .i64 m] [] = bif bif decide ((0 : Int) ≤ n) then true else true then some (AV.bool (bif decide ((0 : Int) ≤ n) then bif true then decide (n ≤ m) else false else false), []) else none := by kernel_rfl
  rw [h]
  clear h
  unfold vev28_0
  generalize (decide ((0 : Int) ≤ n)) = c0
  cases c0
  · skip
    rfl
  · skip
    rfl
-- spec true ;; (AV.bool (vev28_0 n m), [])
noncomputable def sp28 : List AV → List Blk → Option (Bool × AV × List Blk)
  | [.int .i64 n, .int .i64 m], [] => spW (true) (fin Try.prog (tab.frz 28) ([] : List Blk).length Try.f28.resultTypes.toList (some ((AV.bool (vev28_0 n m), []))))
  | _, _ => none
noncomputable def k28 : Gam := fun f T C => match Nat.beq f 28 with
  | true => (sp28 T C).or (k0 f T C)
  | false => k0 f T C
theorem k28_ok : GamOK Try.prog k28 := by
  intro f T C r outs h
  unfold k28 at h
  cases hf : Nat.beq f 28 with
  | false => rw [hf] at h; exact k0_ok f T C r outs h
  | true =>
    have hf' := Nat.eq_of_beq_eq_true hf
    subst hf'
    rw [hf] at h
    dsimp only at h
    cases hs : sp28 T C with
    | none => rw [hs] at h; exact k0_ok _ T C r outs h
    | some x =>
      rw [hs] at h
      have hx : x = (true, r, outs) := by simpa using h
      subst hx
      unfold sp28 at hs
      split at hs
      · rename_i n m
        obtain ⟨hb, hs⟩ := spW_inv hs
        have he := ev28 n m
        obtain ⟨h1, h2⟩ := fn_ok mixed plain (gk_ok k0_ok 30) Try.func28 (fun c _ => LoopsOK.none (fun _ _ => rfl) c) he
        exact ⟨h1, h2.fin hs⟩
      · cases hs
noncomputable def vev29_0 (n : Int) : Bool := bif decide (n > (0 : Int)) then bif true then decide (n ≤ (16 : Int)) else false else false
theorem ev29 (n : Int) : evFun (cfg Try.prog tab 100000 (gk k28 30) noLsp 29 ([] : List Blk).length Try.f29.ntmps) Try.f29 [.int .i64 n] [] = bif true then some (AV.bool (vev29_0 n), []) else none := by
  have h : evFun (cfg Try.prog tab 100000 (gk k28 30) noLsp 29 ([] : List Blk).length Try.f29.ntmps) Try.f29 [.int .i64 n] [] = bif bif decide (n > (0 : Int)) then true else true then some (AV.bool (bif decide (n > (0 : Int)) then bif true then decide (n ≤ (16 : Int)) else false else false), []) else none := by kernel_rfl
  rw [h]
  clear h
  unfold vev29_0
  generalize (decide (n > (0 : Int))) = c0
  cases c0
  · skip
    rfl
  · skip
    rfl
-- spec true ;; (AV.bool (vev29_0 n), [])
noncomputable def sp29 : List AV → List Blk → Option (Bool × AV × List Blk)
  | [.int .i64 n], [] => spW (true) (fin Try.prog (tab.frz 29) ([] : List Blk).length Try.f29.resultTypes.toList (some ((AV.bool (vev29_0 n), []))))
  | _, _ => none
noncomputable def k29 : Gam := fun f T C => match Nat.beq f 29 with
  | true => (sp29 T C).or (k28 f T C)
  | false => k28 f T C
theorem k29_ok : GamOK Try.prog k29 := by
  intro f T C r outs h
  unfold k29 at h
  cases hf : Nat.beq f 29 with
  | false => rw [hf] at h; exact k28_ok f T C r outs h
  | true =>
    have hf' := Nat.eq_of_beq_eq_true hf
    subst hf'
    rw [hf] at h
    dsimp only at h
    cases hs : sp29 T C with
    | none => rw [hs] at h; exact k28_ok _ T C r outs h
    | some x =>
      rw [hs] at h
      have hx : x = (true, r, outs) := by simpa using h
      subst hx
      unfold sp29 at hs
      split at hs
      · rename_i n
        obtain ⟨hb, hs⟩ := spW_inv hs
        have he := ev29 n
        obtain ⟨h1, h2⟩ := fn_ok mixed plain (gk_ok k28_ok 30) Try.func29 (fun c _ => LoopsOK.none (fun _ _ => rfl) c) he
        exact ⟨h1, h2.fin hs⟩
      · cases hs
noncomputable def vev9_0 (c : Int) (b : Int) : Int := bif bif !vev28_0 c (1099511627776 : Int) then true else !vev29_0 b then (0 : Int) else IntKind.i64.wrap (c * IntKind.i64.wrap (Int.tdiv (720720 : Int) b))
noncomputable def vev9_1 (c : Int) (b : Int) : Int := bif bif !vev28_0 c (1099511627776 : Int) then true else !vev29_0 b then (8 : Int) else (0 : Int)
noncomputable def vev9_2 (c : Int) (b : Int) : Bool := bif bif !vev28_0 c (1099511627776 : Int) then true else !vev29_0 b then true else bif !b == (0 : Int) then true else false
theorem ev9 (c : Int) (b : Int) : evFun (cfg Try.prog tab 100000 (gk k29 30) noLsp 9 ([] : List Blk).length Try.f9.ntmps) Try.f9 [.int .i64 c, .int .i64 b] [] = bif vev9_2 c b then some (AV.tup [AV.int IntKind.i64 (vev9_0 c b), AV.int IntKind.i64 (vev9_1 c b)], []) else none := by
  have h : evFun (cfg Try.prog tab 100000 (gk k29 30) noLsp 9 ([] : List Blk).length Try.f9.ntmps) Try.f9 [.int .i64 c, .int .i64 b] [] = bif bif !vev28_0 c (1099511627776 : Int) then true else true then bif bif !vev28_0 c (1099511627776 : Int) then true else bif false then true else !vev29_0 b then some (AV.tup [AV.int IntKind.i64 (0 : Int), AV.int IntKind.i64 (8 : Int)], []) else bif !b == (0 : Int) then some (AV.tup [AV.int IntKind.i64 (IntKind.i64.wrap (c * IntKind.i64.wrap (Int.tdiv (720720 : Int) b))), AV.int IntKind.i64 (0 : Int)], []) else none else none := by kernel_rfl
  rw [h]
  clear h
  unfold vev9_0 vev9_1 vev9_2
  generalize (!b == (0 : Int)) = c0
  generalize (!vev28_0 c (1099511627776 : Int)) = c1
  generalize (!vev29_0 b) = c2
  cases c1
  · skip
    cases c2
    · skip
      cases c0
      · skip
        rfl
      · skip
        rfl
    · skip
      rfl
  · skip
    rfl
-- spec vev9_2 c b ;; (AV.tup [AV.int IntKind.i64 (vev9_0 c b), AV.int IntKind.i64 (vev9_1 c b)], [])
noncomputable def sp9 : List AV → List Blk → Option (Bool × AV × List Blk)
  | [.int .i64 c, .int .i64 b], [] => spW (vev9_2 c b) (fin Try.prog (tab.frz 9) ([] : List Blk).length Try.f9.resultTypes.toList (some ((AV.tup [AV.int IntKind.i64 (vev9_0 c b), AV.int IntKind.i64 (vev9_1 c b)], []))))
  | _, _ => none
noncomputable def k9 : Gam := fun f T C => match Nat.beq f 9 with
  | true => (sp9 T C).or (k29 f T C)
  | false => k29 f T C
theorem k9_ok : GamOK Try.prog k9 := by
  intro f T C r outs h
  unfold k9 at h
  cases hf : Nat.beq f 9 with
  | false => rw [hf] at h; exact k29_ok f T C r outs h
  | true =>
    have hf' := Nat.eq_of_beq_eq_true hf
    subst hf'
    rw [hf] at h
    dsimp only at h
    cases hs : sp9 T C with
    | none => rw [hs] at h; exact k29_ok _ T C r outs h
    | some x =>
      rw [hs] at h
      have hx : x = (true, r, outs) := by simpa using h
      subst hx
      unfold sp9 at hs
      split at hs
      · rename_i c b
        obtain ⟨hb, hs⟩ := spW_inv hs
        have he := ev9 c b
        rw [hb] at he
        obtain ⟨h1, h2⟩ := fn_ok mixed plain (gk_ok k29_ok 30) Try.func9 (fun c _ => LoopsOK.none (fun _ _ => rfl) c) he
        exact ⟨h1, h2.fin hs⟩
      · cases hs
noncomputable def vev15_0 (w : Int) (s : Int) (f : Int) (k : Int) : Int := bif bif vev29_0 w then bif vev28_0 k (1099511627776 : Int) then bif vev28_0 s (2305843009213693952 : Int) then vev28_0 f (2305843009213693952 : Int) else false else false else false then (0 : Int) else (8 : Int)
theorem ev15 (w : Int) (s : Int) (f : Int) (k : Int) : evFun (cfg Try.prog tab 100000 (gk k9 30) noLsp 15 ([] : List Blk).length Try.f15.ntmps) Try.f15 [.agg [.int .i64 w, .int .i64 s, .int .i64 f, .int .i64 k]] [] = bif true then some (AV.int IntKind.i64 (vev15_0 w s f k), []) else none := by
  have h : evFun (cfg Try.prog tab 100000 (gk k9 30) noLsp 15 ([] : List Blk).length Try.f15.ntmps) Try.f15 [.agg [.int .i64 w, .int .i64 s, .int .i64 f, .int .i64 k]] [] = bif bif vev29_0 w then bif bif true then vev28_0 k (1099511627776 : Int) else false then bif bif true then vev28_0 s (2305843009213693952 : Int) else false then true else true else true else true then bif bif vev29_0 w then bif bif true then vev28_0 k (1099511627776 : Int) else false then bif bif true then vev28_0 s (2305843009213693952 : Int) else false then bif true then vev28_0 f (2305843009213693952 : Int) else false else false else false else false then some (AV.int IntKind.i64 (0 : Int), []) else some (AV.int IntKind.i64 (8 : Int), []) else none := by kernel_rfl
  rw [h]
  clear h
  unfold vev15_0
  generalize (vev28_0 f (2305843009213693952 : Int)) = c0
  generalize (vev28_0 k (1099511627776 : Int)) = c1
  generalize (vev28_0 s (2305843009213693952 : Int)) = c2
  generalize (vev29_0 w) = c3
  cases c3
  · skip
    rfl
  · skip
    cases c1
    · skip
      rfl
    · skip
      cases c2
      · skip
        rfl
      · skip
        cases c0
        · skip
          rfl
        · skip
          rfl
-- spec true ;; (AV.int IntKind.i64 (vev15_0 w s f k), [])
noncomputable def sp15 : List AV → List Blk → Option (Bool × AV × List Blk)
  | [.agg [.int .i64 w, .int .i64 s, .int .i64 f, .int .i64 k]], [] => spW (true) (fin Try.prog (tab.frz 15) ([] : List Blk).length Try.f15.resultTypes.toList (some ((AV.int IntKind.i64 (vev15_0 w s f k), []))))
  | _, _ => none
noncomputable def k15 : Gam := fun f T C => match Nat.beq f 15 with
  | true => (sp15 T C).or (k9 f T C)
  | false => k9 f T C
theorem k15_ok : GamOK Try.prog k15 := by
  intro f T C r outs h
  unfold k15 at h
  cases hf : Nat.beq f 15 with
  | false => rw [hf] at h; exact k9_ok f T C r outs h
  | true =>
    have hf' := Nat.eq_of_beq_eq_true hf
    subst hf'
    rw [hf] at h
    dsimp only at h
    cases hs : sp15 T C with
    | none => rw [hs] at h; exact k9_ok _ T C r outs h
    | some x =>
      rw [hs] at h
      have hx : x = (true, r, outs) := by simpa using h
      subst hx
      unfold sp15 at hs
      split at hs
      · rename_i w s f k
        obtain ⟨hb, hs⟩ := spW_inv hs
        have he := ev15 w s f k
        obtain ⟨h1, h2⟩ := fn_ok mixed plain (gk_ok k9_ok 30) Try.func15 (fun c _ => LoopsOK.none (fun _ _ => rfl) c) he
        exact ⟨h1, h2.fin hs⟩
      · cases hs
noncomputable def vev11_0 (b : Int) : Int := bif !vev29_0 b then (0 : Int) else b
noncomputable def vev11_1 (b : Int) : Int := bif !vev29_0 b then (8 : Int) else (0 : Int)
theorem ev11 (b : Int) : evFun (cfg Try.prog tab 100000 (gk k15 30) noLsp 11 ([] : List Blk).length Try.f11.ntmps) Try.f11 [.int .i64 b] [] = some (AV.tup [AV.agg [AV.int IntKind.i64 (vev11_0 b), AV.int IntKind.i64 (0 : Int), AV.int IntKind.i64 (0 : Int), AV.int IntKind.i64 (0 : Int)], AV.int IntKind.i64 (vev11_1 b)], []) := by
  have h : evFun (cfg Try.prog tab 100000 (gk k15 30) noLsp 11 ([] : List Blk).length Try.f11.ntmps) Try.f11 [.int .i64 b] [] = bif !vev29_0 b then some (AV.tup [AV.agg [AV.int IntKind.i64 (0 : Int), AV.int IntKind.i64 (0 : Int), AV.int IntKind.i64 (0 : Int), AV.int IntKind.i64 (0 : Int)], AV.int IntKind.i64 (8 : Int)], []) else some (AV.tup [AV.agg [AV.int IntKind.i64 b, AV.int IntKind.i64 (0 : Int), AV.int IntKind.i64 (0 : Int), AV.int IntKind.i64 (0 : Int)], AV.int IntKind.i64 (0 : Int)], []) := by kernel_rfl
  rw [h]
  clear h
  unfold vev11_0 vev11_1
  generalize (!vev29_0 b) = c0
  cases c0
  · skip
    rfl
  · skip
    rfl
-- spec true ;; (AV.tup [AV.agg [AV.int IntKind.i64 (vev11_0 b), AV.int IntKind.i64 (0 : Int), AV.int IntKind.i64 (0 : Int), AV.int IntKind.i64 (0 : Int)], AV.int IntKind.i64 (vev11_1 b)], [])
noncomputable def sp11 : List AV → List Blk → Option (Bool × AV × List Blk)
  | [.int .i64 b], [] => spW (true) (fin Try.prog (tab.frz 11) ([] : List Blk).length Try.f11.resultTypes.toList (some ((AV.tup [AV.agg [AV.int IntKind.i64 (vev11_0 b), AV.int IntKind.i64 (0 : Int), AV.int IntKind.i64 (0 : Int), AV.int IntKind.i64 (0 : Int)], AV.int IntKind.i64 (vev11_1 b)], []))))
  | _, _ => none
noncomputable def k11 : Gam := fun f T C => match Nat.beq f 11 with
  | true => (sp11 T C).or (k15 f T C)
  | false => k15 f T C
theorem k11_ok : GamOK Try.prog k11 := by
  intro f T C r outs h
  unfold k11 at h
  cases hf : Nat.beq f 11 with
  | false => rw [hf] at h; exact k15_ok f T C r outs h
  | true =>
    have hf' := Nat.eq_of_beq_eq_true hf
    subst hf'
    rw [hf] at h
    dsimp only at h
    cases hs : sp11 T C with
    | none => rw [hs] at h; exact k15_ok _ T C r outs h
    | some x =>
      rw [hs] at h
      have hx : x = (true, r, outs) := by simpa using h
      subst hx
      unfold sp11 at hs
      split at hs
      · rename_i b
        obtain ⟨hb, hs⟩ := spW_inv hs
        have he := ev11 b
        obtain ⟨h1, h2⟩ := fn_ok mixed plain (gk_ok k15_ok 30) Try.func11 (fun c _ => LoopsOK.none (fun _ _ => rfl) c) he
        exact ⟨h1, h2.fin hs⟩
      · cases hs
noncomputable def vev13_0 (v : Int) (w : Int) (s : Int) (f : Int) (k : Int) : Int := bif bif vev15_0 w s f k == (0 : Int) then vev28_0 v (2305843009213693952 : Int) else false then if if true = true then f < v else v < f then v else f else s
theorem ev13 (v : Int) (w : Int) (s : Int) (f : Int) (k : Int) : evFun (cfg Try.prog tab 100000 (gk k11 30) noLsp 13 ([] : List Blk).length Try.f13.ntmps) Try.f13 [.int .i64 v, .agg [.int .i64 w, .int .i64 s, .int .i64 f, .int .i64 k]] [] = bif true then some (AV.agg [AV.int IntKind.i64 w, AV.int IntKind.i64 (vev13_0 v w s f k), AV.int IntKind.i64 f, AV.int IntKind.i64 k], []) else none := by
  have h : evFun (cfg Try.prog tab 100000 (gk k11 30) noLsp 13 ([] : List Blk).length Try.f13.ntmps) Try.f13 [.int .i64 v, .agg [.int .i64 w, .int .i64 s, .int .i64 f, .int .i64 k]] [] = bif bif vev15_0 w s f k == (0 : Int) then true else true then bif bif vev15_0 w s f k == (0 : Int) then bif true then vev28_0 v (2305843009213693952 : Int) else false else false then some (AV.agg [AV.int IntKind.i64 w, AV.int IntKind.i64 (if if true = true then f < v else v < f then v else f), AV.int IntKind.i64 f, AV.int IntKind.i64 k], []) else some (AV.agg [AV.int IntKind.i64 w, AV.int IntKind.i64 s, AV.int IntKind.i64 f, AV.int IntKind.i64 k], []) else none := by kernel_rfl
  rw [h]
  clear h
  unfold vev13_0
  generalize (vev15_0 w s f k == (0 : Int)) = c0
  generalize (vev28_0 v (2305843009213693952 : Int)) = c1
  cases c0
  · skip
    rfl
  · skip
    cases c1
    · skip
      rfl
    · skip
      rfl
-- spec true ;; (AV.agg [AV.int IntKind.i64 w, AV.int IntKind.i64 (vev13_0 v w s f k), AV.int IntKind.i64 f, AV.int IntKind.i64 k], [])
noncomputable def sp13 : List AV → List Blk → Option (Bool × AV × List Blk)
  | [.int .i64 v, .agg [.int .i64 w, .int .i64 s, .int .i64 f, .int .i64 k]], [] => spW (true) (fin Try.prog (tab.frz 13) ([] : List Blk).length Try.f13.resultTypes.toList (some ((AV.agg [AV.int IntKind.i64 w, AV.int IntKind.i64 (vev13_0 v w s f k), AV.int IntKind.i64 f, AV.int IntKind.i64 k], []))))
  | _, _ => none
noncomputable def k13 : Gam := fun f T C => match Nat.beq f 13 with
  | true => (sp13 T C).or (k11 f T C)
  | false => k11 f T C
theorem k13_ok : GamOK Try.prog k13 := by
  intro f T C r outs h
  unfold k13 at h
  cases hf : Nat.beq f 13 with
  | false => rw [hf] at h; exact k11_ok f T C r outs h
  | true =>
    have hf' := Nat.eq_of_beq_eq_true hf
    subst hf'
    rw [hf] at h
    dsimp only at h
    cases hs : sp13 T C with
    | none => rw [hs] at h; exact k11_ok _ T C r outs h
    | some x =>
      rw [hs] at h
      have hx : x = (true, r, outs) := by simpa using h
      subst hx
      unfold sp13 at hs
      split at hs
      · rename_i v w s f k
        obtain ⟨hb, hs⟩ := spW_inv hs
        have he := ev13 v w s f k
        obtain ⟨h1, h2⟩ := fn_ok mixed plain (gk_ok k11_ok 30) Try.func13 (fun c _ => LoopsOK.none (fun _ _ => rfl) c) he
        exact ⟨h1, h2.fin hs⟩
      · cases hs
noncomputable def vev7_0 (v : Int) (w : Int) (s : Int) (f : Int) (k : Int) (c : Int) : Int := bif vev15_0 w s f k != (0 : Int) then v else bif vev9_1 c w != (0 : Int) then v else bif bif decide (c > IntKind.i64.wrap ((1099511627776 : Int) - k)) then true else decide (vev9_0 c w > IntKind.i64.wrap ((2305843009213693952 : Int) - s)) then v else s
noncomputable def vev7_1 (v : Int) (w : Int) (s : Int) (f : Int) (k : Int) (c : Int) : Int := bif vev15_0 w s f k != (0 : Int) then s else bif vev9_1 c w != (0 : Int) then s else bif bif decide (c > IntKind.i64.wrap ((1099511627776 : Int) - k)) then true else decide (vev9_0 c w > IntKind.i64.wrap ((2305843009213693952 : Int) - s)) then s else IntKind.i64.wrap (s + vev9_0 c w)
noncomputable def vev7_2 (v : Int) (w : Int) (s : Int) (f : Int) (k : Int) (c : Int) : Int := bif vev15_0 w s f k != (0 : Int) then f else bif vev9_1 c w != (0 : Int) then f else bif bif decide (c > IntKind.i64.wrap ((1099511627776 : Int) - k)) then true else decide (vev9_0 c w > IntKind.i64.wrap ((2305843009213693952 : Int) - s)) then f else IntKind.i64.wrap (s + vev9_0 c w)
noncomputable def vev7_3 (v : Int) (w : Int) (s : Int) (f : Int) (k : Int) (c : Int) : Int := bif vev15_0 w s f k != (0 : Int) then k else bif vev9_1 c w != (0 : Int) then k else bif bif decide (c > IntKind.i64.wrap ((1099511627776 : Int) - k)) then true else decide (vev9_0 c w > IntKind.i64.wrap ((2305843009213693952 : Int) - s)) then k else IntKind.i64.wrap (k + c)
noncomputable def vev7_4 (v : Int) (w : Int) (s : Int) (f : Int) (k : Int) (c : Int) : Int := bif vev15_0 w s f k != (0 : Int) then vev15_0 w s f k else bif vev9_1 c w != (0 : Int) then vev9_1 c w else bif bif decide (c > IntKind.i64.wrap ((1099511627776 : Int) - k)) then true else decide (vev9_0 c w > IntKind.i64.wrap ((2305843009213693952 : Int) - s)) then (7 : Int) else (0 : Int)
noncomputable def vev7_5 (v : Int) (w : Int) (s : Int) (f : Int) (k : Int) (c : Int) : Bool := bif vev15_0 w s f k != (0 : Int) then true else bif vev9_2 c w then true else false
theorem ev7 (v : Int) (w : Int) (s : Int) (f : Int) (k : Int) (c : Int) : evFun (cfg Try.prog tab 100000 (gk k13 30) noLsp 7 ([] : List Blk).length Try.f7.ntmps) Try.f7 [.int .i64 v, .agg [.int .i64 w, .int .i64 s, .int .i64 f, .int .i64 k], .int .i64 c] [] = bif vev7_5 v w s f k c then some (AV.tup [AV.int IntKind.i64 (vev7_0 v w s f k c), AV.agg [AV.int IntKind.i64 w, AV.int IntKind.i64 (vev7_1 v w s f k c), AV.int IntKind.i64 (vev7_2 v w s f k c), AV.int IntKind.i64 (vev7_3 v w s f k c)], AV.int IntKind.i64 (vev7_4 v w s f k c)], []) else none := by
  have h : evFun (cfg Try.prog tab 100000 (gk k13 30) noLsp 7 ([] : List Blk).length Try.f7.ntmps) Try.f7 [.int .i64 v, .agg [.int .i64 w, .int .i64 s, .int .i64 f, .int .i64 k], .int .i64 c] [] = bif vev15_0 w s f k != (0 : Int) then some (AV.tup [AV.int IntKind.i64 v, AV.agg [AV.int IntKind.i64 w, AV.int IntKind.i64 s, AV.int IntKind.i64 f, AV.int IntKind.i64 k], AV.int IntKind.i64 (vev15_0 w s f k)], []) else bif vev9_2 c w then bif vev9_1 c w != (0 : Int) then some (AV.tup [AV.int IntKind.i64 v, AV.agg [AV.int IntKind.i64 w, AV.int IntKind.i64 s, AV.int IntKind.i64 f, AV.int IntKind.i64 k], AV.int IntKind.i64 (vev9_1 c w)], []) else bif bif decide (c > IntKind.i64.wrap ((1099511627776 : Int) - k)) then true else true then bif bif decide (c > IntKind.i64.wrap ((1099511627776 : Int) - k)) then true else bif false then true else decide (vev9_0 c w > IntKind.i64.wrap ((2305843009213693952 : Int) - s)) then some (AV.tup [AV.int IntKind.i64 v, AV.agg [AV.int IntKind.i64 w, AV.int IntKind.i64 s, AV.int IntKind.i64 f, AV.int IntKind.i64 k], AV.int IntKind.i64 (7 : Int)], []) else some (AV.tup [AV.int IntKind.i64 s, AV.agg [AV.int IntKind.i64 w, AV.int IntKind.i64 (IntKind.i64.wrap (s + vev9_0 c w)), AV.int IntKind.i64 (IntKind.i64.wrap (s + vev9_0 c w)), AV.int IntKind.i64 (IntKind.i64.wrap (k + c))], AV.int IntKind.i64 (0 : Int)], []) else none else none := by kernel_rfl
  rw [h]
  clear h
  unfold vev7_0 vev7_1 vev7_2 vev7_3 vev7_4 vev7_5
  generalize (decide (vev9_0 c w > IntKind.i64.wrap ((2305843009213693952 : Int) - s))) = c0
  generalize (decide (c > IntKind.i64.wrap ((1099511627776 : Int) - k))) = c1
  generalize (vev15_0 w s f k != (0 : Int)) = c2
  generalize (vev9_1 c w != (0 : Int)) = c3
  generalize (vev9_2 c w) = c4
  cases c2
  · skip
    cases c4
    · skip
      rfl
    · skip
      cases c3
      · skip
        cases c1
        · skip
          cases c0
          · skip
            rfl
          · skip
            rfl
        · skip
          rfl
      · skip
        rfl
  · skip
    rfl
-- spec vev7_5 v w s f k c ;; (AV.tup [AV.int IntKind.i64 (vev7_0 v w s f k c), AV.agg [AV.int IntKind.i64 w, AV.int IntKind.i64 (vev7_1 v w s f k c), AV.int IntKind.i64 (vev7_2 v w s f k c), AV.int IntKind.i64 (vev7_3 v w s f k c)], AV.int IntKind.i64 (vev7_4 v w s f k c)], [])
noncomputable def sp7 : List AV → List Blk → Option (Bool × AV × List Blk)
  | [.int .i64 v, .agg [.int .i64 w, .int .i64 s, .int .i64 f, .int .i64 k], .int .i64 c], [] => spW (vev7_5 v w s f k c) (fin Try.prog (tab.frz 7) ([] : List Blk).length Try.f7.resultTypes.toList (some ((AV.tup [AV.int IntKind.i64 (vev7_0 v w s f k c), AV.agg [AV.int IntKind.i64 w, AV.int IntKind.i64 (vev7_1 v w s f k c), AV.int IntKind.i64 (vev7_2 v w s f k c), AV.int IntKind.i64 (vev7_3 v w s f k c)], AV.int IntKind.i64 (vev7_4 v w s f k c)], []))))
  | _, _ => none
noncomputable def k7 : Gam := fun f T C => match Nat.beq f 7 with
  | true => (sp7 T C).or (k13 f T C)
  | false => k13 f T C
theorem k7_ok : GamOK Try.prog k7 := by
  intro f T C r outs h
  unfold k7 at h
  cases hf : Nat.beq f 7 with
  | false => rw [hf] at h; exact k13_ok f T C r outs h
  | true =>
    have hf' := Nat.eq_of_beq_eq_true hf
    subst hf'
    rw [hf] at h
    dsimp only at h
    cases hs : sp7 T C with
    | none => rw [hs] at h; exact k13_ok _ T C r outs h
    | some x =>
      rw [hs] at h
      have hx : x = (true, r, outs) := by simpa using h
      subst hx
      unfold sp7 at hs
      split at hs
      · rename_i v w s f k c
        obtain ⟨hb, hs⟩ := spW_inv hs
        have he := ev7 v w s f k c
        rw [hb] at he
        obtain ⟨h1, h2⟩ := fn_ok mixed plain (gk_ok k13_ok 30) Try.func7 (fun c _ => LoopsOK.none (fun _ _ => rfl) c) he
        exact ⟨h1, h2.fin hs⟩
      · cases hs
noncomputable def vev30_0 (n : Int) (m : Int) : Bool := bif decide (n ≥ (0 : Int)) then bif true then decide (n ≤ m) else false else false
theorem ev30 (n : Int) (m : Int) : evFun (cfg Try.prog tab 100000 (gk k7 30) noLsp 30 ([] : List Blk).length Try.f30.ntmps) Try.f30 [.int .i64 n, .int .i64 m] [] = bif true then some (AV.bool (vev30_0 n m), []) else none := by
  have h : evFun (cfg Try.prog tab 100000 (gk k7 30) noLsp 30 ([] : List Blk).length Try.f30.ntmps) Try.f30 [.int .i64 n, .int .i64 m] [] = bif bif decide (n ≥ (0 : Int)) then true else true then some (AV.bool (bif decide (n ≥ (0 : Int)) then bif true then decide (n ≤ m) else false else false), []) else none := by kernel_rfl
  rw [h]
  clear h
  unfold vev30_0
  generalize (decide (n ≥ (0 : Int))) = c0
  cases c0
  · skip
    rfl
  · skip
    rfl
-- spec true ;; (AV.bool (vev30_0 n m), [])
noncomputable def sp30 : List AV → List Blk → Option (Bool × AV × List Blk)
  | [.int .i64 n, .int .i64 m], [] => spW (true) (fin Try.prog (tab.frz 30) ([] : List Blk).length Try.f30.resultTypes.toList (some ((AV.bool (vev30_0 n m), []))))
  | _, _ => none
noncomputable def k30 : Gam := fun f T C => match Nat.beq f 30 with
  | true => (sp30 T C).or (k7 f T C)
  | false => k7 f T C
theorem k30_ok : GamOK Try.prog k30 := by
  intro f T C r outs h
  unfold k30 at h
  cases hf : Nat.beq f 30 with
  | false => rw [hf] at h; exact k7_ok f T C r outs h
  | true =>
    have hf' := Nat.eq_of_beq_eq_true hf
    subst hf'
    rw [hf] at h
    dsimp only at h
    cases hs : sp30 T C with
    | none => rw [hs] at h; exact k7_ok _ T C r outs h
    | some x =>
      rw [hs] at h
      have hx : x = (true, r, outs) := by simpa using h
      subst hx
      unfold sp30 at hs
      split at hs
      · rename_i n m
        obtain ⟨hb, hs⟩ := spW_inv hs
        have he := ev30 n m
        obtain ⟨h1, h2⟩ := fn_ok mixed plain (gk_ok k7_ok 30) Try.func30 (fun c _ => LoopsOK.none (fun _ _ => rfl) c) he
        exact ⟨h1, h2.fin hs⟩
      · cases hs
noncomputable def vev10_0 (c : Int) (b : Int) : Int := bif bif !vev30_0 c (1099511627776 : Int) then true else bif decide (b < (1 : Int)) then true else decide (b > (16 : Int)) then (0 : Int) else IntKind.i64.wrap ((IntKind.i64.wrap (c * (720720 : Int))).tdiv b)
noncomputable def vev10_1 (c : Int) (b : Int) : Int := bif bif !vev30_0 c (1099511627776 : Int) then true else bif decide (b < (1 : Int)) then true else decide (b > (16 : Int)) then (8 : Int) else (0 : Int)
noncomputable def vev10_2 (c : Int) (b : Int) : Bool := bif bif !vev30_0 c (1099511627776 : Int) then true else bif decide (b < (1 : Int)) then true else decide (b > (16 : Int)) then true else bif !b == (0 : Int) then true else false
theorem ev10 (c : Int) (b : Int) : evFun (cfg Try.prog tab 100000 (gk k30 30) noLsp 10 ([] : List Blk).length Try.f10.ntmps) Try.f10 [.int .i64 c, .int .i64 b] [] = bif vev10_2 c b then some (AV.tup [AV.int IntKind.i64 (vev10_0 c b), AV.int IntKind.i64 (vev10_1 c b)], []) else none := by
  have h : evFun (cfg Try.prog tab 100000 (gk k30 30) noLsp 10 ([] : List Blk).length Try.f10.ntmps) Try.f10 [.int .i64 c, .int .i64 b] [] = bif bif !vev30_0 c (1099511627776 : Int) then true else bif bif false then true else decide (b < (1 : Int)) then true else true then bif bif !vev30_0 c (1099511627776 : Int) then true else bif bif false then true else decide (b < (1 : Int)) then true else bif false then true else decide (b > (16 : Int)) then some (AV.tup [AV.int IntKind.i64 (0 : Int), AV.int IntKind.i64 (8 : Int)], []) else bif !b == (0 : Int) then some (AV.tup [AV.int IntKind.i64 (IntKind.i64.wrap ((IntKind.i64.wrap (c * (720720 : Int))).tdiv b)), AV.int IntKind.i64 (0 : Int)], []) else none else none := by kernel_rfl
  rw [h]
  clear h
  unfold vev10_0 vev10_1 vev10_2
  generalize (decide (b > (16 : Int))) = c0
  generalize (decide (b < (1 : Int))) = c1
  generalize (!b == (0 : Int)) = c2
  generalize (!vev30_0 c (1099511627776 : Int)) = c3
  cases c3
  · skip
    cases c1
    · skip
      cases c0
      · skip
        cases c2
        · skip
          rfl
        · skip
          rfl
      · skip
        rfl
    · skip
      rfl
  · skip
    rfl
-- spec vev10_2 c b ;; (AV.tup [AV.int IntKind.i64 (vev10_0 c b), AV.int IntKind.i64 (vev10_1 c b)], [])
noncomputable def sp10 : List AV → List Blk → Option (Bool × AV × List Blk)
  | [.int .i64 c, .int .i64 b], [] => spW (vev10_2 c b) (fin Try.prog (tab.frz 10) ([] : List Blk).length Try.f10.resultTypes.toList (some ((AV.tup [AV.int IntKind.i64 (vev10_0 c b), AV.int IntKind.i64 (vev10_1 c b)], []))))
  | _, _ => none
noncomputable def k10 : Gam := fun f T C => match Nat.beq f 10 with
  | true => (sp10 T C).or (k30 f T C)
  | false => k30 f T C
theorem k10_ok : GamOK Try.prog k10 := by
  intro f T C r outs h
  unfold k10 at h
  cases hf : Nat.beq f 10 with
  | false => rw [hf] at h; exact k30_ok f T C r outs h
  | true =>
    have hf' := Nat.eq_of_beq_eq_true hf
    subst hf'
    rw [hf] at h
    dsimp only at h
    cases hs : sp10 T C with
    | none => rw [hs] at h; exact k30_ok _ T C r outs h
    | some x =>
      rw [hs] at h
      have hx : x = (true, r, outs) := by simpa using h
      subst hx
      unfold sp10 at hs
      split at hs
      · rename_i c b
        obtain ⟨hb, hs⟩ := spW_inv hs
        have he := ev10 c b
        rw [hb] at he
        obtain ⟨h1, h2⟩ := fn_ok mixed plain (gk_ok k30_ok 30) Try.func10 (fun c _ => LoopsOK.none (fun _ _ => rfl) c) he
        exact ⟨h1, h2.fin hs⟩
      · cases hs
noncomputable def vev16_0 (w : Int) (s : Int) (f : Int) (k : Int) : Int := bif bif decide (w < (1 : Int)) then true else bif decide (w > (16 : Int)) then true else bif !vev30_0 k (1099511627776 : Int) then true else bif !vev30_0 s (2305843009213693952 : Int) then true else !vev30_0 f (2305843009213693952 : Int) then (8 : Int) else (0 : Int)
theorem ev16 (w : Int) (s : Int) (f : Int) (k : Int) : evFun (cfg Try.prog tab 100000 (gk k10 30) noLsp 16 ([] : List Blk).length Try.f16.ntmps) Try.f16 [.agg [.int .i64 w, .int .i64 s, .int .i64 f, .int .i64 k]] [] = bif true then some (AV.int IntKind.i64 (vev16_0 w s f k), []) else none := by
  have h : evFun (cfg Try.prog tab 100000 (gk k10 30) noLsp 16 ([] : List Blk).length Try.f16.ntmps) Try.f16 [.agg [.int .i64 w, .int .i64 s, .int .i64 f, .int .i64 k]] [] = bif bif decide (w < (1 : Int)) then true else bif bif false then true else decide (w > (16 : Int)) then true else bif bif false then true else !vev30_0 k (1099511627776 : Int) then true else bif bif false then true else !vev30_0 s (2305843009213693952 : Int) then true else true then bif bif decide (w < (1 : Int)) then true else bif bif false then true else decide (w > (16 : Int)) then true else bif bif false then true else !vev30_0 k (1099511627776 : Int) then true else bif bif false then true else !vev30_0 s (2305843009213693952 : Int) then true else bif false then true else !vev30_0 f (2305843009213693952 : Int) then some (AV.int IntKind.i64 (8 : Int), []) else some (AV.int IntKind.i64 (0 : Int), []) else none := by kernel_rfl
  rw [h]
  clear h
  unfold vev16_0
  generalize (decide (w > (16 : Int))) = c0
  generalize (decide (w < (1 : Int))) = c1
  generalize (!vev30_0 f (2305843009213693952 : Int)) = c2
  generalize (!vev30_0 k (1099511627776 : Int)) = c3
  generalize (!vev30_0 s (2305843009213693952 : Int)) = c4
  cases c1
  · skip
    cases c0
    · skip
      cases c3
      · skip
        cases c4
        · skip
          cases c2
          · skip
            rfl
          · skip
            rfl
        · skip
          rfl
      · skip
        rfl
    · skip
      rfl
  · skip
    rfl
-- spec true ;; (AV.int IntKind.i64 (vev16_0 w s f k), [])
noncomputable def sp16 : List AV → List Blk → Option (Bool × AV × List Blk)
  | [.agg [.int .i64 w, .int .i64 s, .int .i64 f, .int .i64 k]], [] => spW (true) (fin Try.prog (tab.frz 16) ([] : List Blk).length Try.f16.resultTypes.toList (some ((AV.int IntKind.i64 (vev16_0 w s f k), []))))
  | _, _ => none
noncomputable def k16 : Gam := fun f T C => match Nat.beq f 16 with
  | true => (sp16 T C).or (k10 f T C)
  | false => k10 f T C
theorem k16_ok : GamOK Try.prog k16 := by
  intro f T C r outs h
  unfold k16 at h
  cases hf : Nat.beq f 16 with
  | false => rw [hf] at h; exact k10_ok f T C r outs h
  | true =>
    have hf' := Nat.eq_of_beq_eq_true hf
    subst hf'
    rw [hf] at h
    dsimp only at h
    cases hs : sp16 T C with
    | none => rw [hs] at h; exact k10_ok _ T C r outs h
    | some x =>
      rw [hs] at h
      have hx : x = (true, r, outs) := by simpa using h
      subst hx
      unfold sp16 at hs
      split at hs
      · rename_i w s f k
        obtain ⟨hb, hs⟩ := spW_inv hs
        have he := ev16 w s f k
        obtain ⟨h1, h2⟩ := fn_ok mixed plain (gk_ok k10_ok 30) Try.func16 (fun c _ => LoopsOK.none (fun _ _ => rfl) c) he
        exact ⟨h1, h2.fin hs⟩
      · cases hs
noncomputable def vev12_0 (b : Int) : Int := bif vev16_0 b (0 : Int) (0 : Int) (0 : Int) != (0 : Int) then (0 : Int) else b
noncomputable def vev12_1 (b : Int) : Int := bif vev16_0 b (0 : Int) (0 : Int) (0 : Int) != (0 : Int) then vev16_0 b (0 : Int) (0 : Int) (0 : Int) else (0 : Int)
theorem ev12 (b : Int) : evFun (cfg Try.prog tab 100000 (gk k16 30) noLsp 12 ([] : List Blk).length Try.f12.ntmps) Try.f12 [.int .i64 b] [] = some (AV.tup [AV.agg [AV.int IntKind.i64 (vev12_0 b), AV.int IntKind.i64 (0 : Int), AV.int IntKind.i64 (0 : Int), AV.int IntKind.i64 (0 : Int)], AV.int IntKind.i64 (vev12_1 b)], []) := by
  have h : evFun (cfg Try.prog tab 100000 (gk k16 30) noLsp 12 ([] : List Blk).length Try.f12.ntmps) Try.f12 [.int .i64 b] [] = bif vev16_0 b (0 : Int) (0 : Int) (0 : Int) != (0 : Int) then some (AV.tup [AV.agg [AV.int IntKind.i64 (0 : Int), AV.int IntKind.i64 (0 : Int), AV.int IntKind.i64 (0 : Int), AV.int IntKind.i64 (0 : Int)], AV.int IntKind.i64 (vev16_0 b (0 : Int) (0 : Int) (0 : Int))], []) else some (AV.tup [AV.agg [AV.int IntKind.i64 b, AV.int IntKind.i64 (0 : Int), AV.int IntKind.i64 (0 : Int), AV.int IntKind.i64 (0 : Int)], AV.int IntKind.i64 (0 : Int)], []) := by kernel_rfl
  rw [h]
  clear h
  unfold vev12_0 vev12_1
  generalize (vev16_0 b (0 : Int) (0 : Int) (0 : Int) != (0 : Int)) = c0
  cases c0
  · skip
    rfl
  · skip
    rfl
-- spec true ;; (AV.tup [AV.agg [AV.int IntKind.i64 (vev12_0 b), AV.int IntKind.i64 (0 : Int), AV.int IntKind.i64 (0 : Int), AV.int IntKind.i64 (0 : Int)], AV.int IntKind.i64 (vev12_1 b)], [])
noncomputable def sp12 : List AV → List Blk → Option (Bool × AV × List Blk)
  | [.int .i64 b], [] => spW (true) (fin Try.prog (tab.frz 12) ([] : List Blk).length Try.f12.resultTypes.toList (some ((AV.tup [AV.agg [AV.int IntKind.i64 (vev12_0 b), AV.int IntKind.i64 (0 : Int), AV.int IntKind.i64 (0 : Int), AV.int IntKind.i64 (0 : Int)], AV.int IntKind.i64 (vev12_1 b)], []))))
  | _, _ => none
noncomputable def k12 : Gam := fun f T C => match Nat.beq f 12 with
  | true => (sp12 T C).or (k16 f T C)
  | false => k16 f T C
theorem k12_ok : GamOK Try.prog k12 := by
  intro f T C r outs h
  unfold k12 at h
  cases hf : Nat.beq f 12 with
  | false => rw [hf] at h; exact k16_ok f T C r outs h
  | true =>
    have hf' := Nat.eq_of_beq_eq_true hf
    subst hf'
    rw [hf] at h
    dsimp only at h
    cases hs : sp12 T C with
    | none => rw [hs] at h; exact k16_ok _ T C r outs h
    | some x =>
      rw [hs] at h
      have hx : x = (true, r, outs) := by simpa using h
      subst hx
      unfold sp12 at hs
      split at hs
      · rename_i b
        obtain ⟨hb, hs⟩ := spW_inv hs
        have he := ev12 b
        obtain ⟨h1, h2⟩ := fn_ok mixed plain (gk_ok k16_ok 30) Try.func12 (fun c _ => LoopsOK.none (fun _ _ => rfl) c) he
        exact ⟨h1, h2.fin hs⟩
      · cases hs
noncomputable def vev14_0 (v : Int) (w : Int) (s : Int) (f : Int) (k : Int) : Int := bif bif vev16_0 w s f k != (0 : Int) then true else !vev30_0 v (2305843009213693952 : Int) then s else if if true = true then v < f else f < v then f else v
theorem ev14 (v : Int) (w : Int) (s : Int) (f : Int) (k : Int) : evFun (cfg Try.prog tab 100000 (gk k12 30) noLsp 14 ([] : List Blk).length Try.f14.ntmps) Try.f14 [.int .i64 v, .agg [.int .i64 w, .int .i64 s, .int .i64 f, .int .i64 k]] [] = bif true then some (AV.agg [AV.int IntKind.i64 w, AV.int IntKind.i64 (vev14_0 v w s f k), AV.int IntKind.i64 f, AV.int IntKind.i64 k], []) else none := by
  have h : evFun (cfg Try.prog tab 100000 (gk k12 30) noLsp 14 ([] : List Blk).length Try.f14.ntmps) Try.f14 [.int .i64 v, .agg [.int .i64 w, .int .i64 s, .int .i64 f, .int .i64 k]] [] = bif bif vev16_0 w s f k != (0 : Int) then true else true then bif bif vev16_0 w s f k != (0 : Int) then true else bif false then true else !vev30_0 v (2305843009213693952 : Int) then some (AV.agg [AV.int IntKind.i64 w, AV.int IntKind.i64 s, AV.int IntKind.i64 f, AV.int IntKind.i64 k], []) else some (AV.agg [AV.int IntKind.i64 w, AV.int IntKind.i64 (if if true = true then v < f else f < v then f else v), AV.int IntKind.i64 f, AV.int IntKind.i64 k], []) else none := by kernel_rfl
  rw [h]
  clear h
  unfold vev14_0
  generalize (vev16_0 w s f k != (0 : Int)) = c0
  generalize (!vev30_0 v (2305843009213693952 : Int)) = c1
  cases c0
  · skip
    cases c1
    · skip
      rfl
    · skip
      rfl
  · skip
    rfl
-- spec true ;; (AV.agg [AV.int IntKind.i64 w, AV.int IntKind.i64 (vev14_0 v w s f k), AV.int IntKind.i64 f, AV.int IntKind.i64 k], [])
noncomputable def sp14 : List AV → List Blk → Option (Bool × AV × List Blk)
  | [.int .i64 v, .agg [.int .i64 w, .int .i64 s, .int .i64 f, .int .i64 k]], [] => spW (true) (fin Try.prog (tab.frz 14) ([] : List Blk).length Try.f14.resultTypes.toList (some ((AV.agg [AV.int IntKind.i64 w, AV.int IntKind.i64 (vev14_0 v w s f k), AV.int IntKind.i64 f, AV.int IntKind.i64 k], []))))
  | _, _ => none
noncomputable def k14 : Gam := fun f T C => match Nat.beq f 14 with
  | true => (sp14 T C).or (k12 f T C)
  | false => k12 f T C
theorem k14_ok : GamOK Try.prog k14 := by
  intro f T C r outs h
  unfold k14 at h
  cases hf : Nat.beq f 14 with
  | false => rw [hf] at h; exact k12_ok f T C r outs h
  | true =>
    have hf' := Nat.eq_of_beq_eq_true hf
    subst hf'
    rw [hf] at h
    dsimp only at h
    cases hs : sp14 T C with
    | none => rw [hs] at h; exact k12_ok _ T C r outs h
    | some x =>
      rw [hs] at h
      have hx : x = (true, r, outs) := by simpa using h
      subst hx
      unfold sp14 at hs
      split at hs
      · rename_i v w s f k
        obtain ⟨hb, hs⟩ := spW_inv hs
        have he := ev14 v w s f k
        obtain ⟨h1, h2⟩ := fn_ok mixed plain (gk_ok k12_ok 30) Try.func14 (fun c _ => LoopsOK.none (fun _ _ => rfl) c) he
        exact ⟨h1, h2.fin hs⟩
      · cases hs
noncomputable def vev8_0 (v : Int) (w : Int) (s : Int) (f : Int) (k : Int) (c : Int) : Int := bif vev16_0 w s f k != (0 : Int) then v else bif vev10_1 c w != (0 : Int) then v else bif bif decide (IntKind.i64.wrap (k + c) > (1099511627776 : Int)) then true else decide (IntKind.i64.wrap (s + vev10_0 c w) > (2305843009213693952 : Int)) then v else s
noncomputable def vev8_1 (v : Int) (w : Int) (s : Int) (f : Int) (k : Int) (c : Int) : Int := bif vev16_0 w s f k != (0 : Int) then s else bif vev10_1 c w != (0 : Int) then s else bif bif decide (IntKind.i64.wrap (k + c) > (1099511627776 : Int)) then true else decide (IntKind.i64.wrap (s + vev10_0 c w) > (2305843009213693952 : Int)) then s else IntKind.i64.wrap (s + vev10_0 c w)
noncomputable def vev8_2 (v : Int) (w : Int) (s : Int) (f : Int) (k : Int) (c : Int) : Int := bif vev16_0 w s f k != (0 : Int) then f else bif vev10_1 c w != (0 : Int) then f else bif bif decide (IntKind.i64.wrap (k + c) > (1099511627776 : Int)) then true else decide (IntKind.i64.wrap (s + vev10_0 c w) > (2305843009213693952 : Int)) then f else IntKind.i64.wrap (s + vev10_0 c w)
noncomputable def vev8_3 (v : Int) (w : Int) (s : Int) (f : Int) (k : Int) (c : Int) : Int := bif vev16_0 w s f k != (0 : Int) then k else bif vev10_1 c w != (0 : Int) then k else bif bif decide (IntKind.i64.wrap (k + c) > (1099511627776 : Int)) then true else decide (IntKind.i64.wrap (s + vev10_0 c w) > (2305843009213693952 : Int)) then k else IntKind.i64.wrap (k + c)
noncomputable def vev8_4 (v : Int) (w : Int) (s : Int) (f : Int) (k : Int) (c : Int) : Int := bif vev16_0 w s f k != (0 : Int) then vev16_0 w s f k else bif vev10_1 c w != (0 : Int) then vev10_1 c w else bif bif decide (IntKind.i64.wrap (k + c) > (1099511627776 : Int)) then true else decide (IntKind.i64.wrap (s + vev10_0 c w) > (2305843009213693952 : Int)) then (7 : Int) else (0 : Int)
noncomputable def vev8_5 (v : Int) (w : Int) (s : Int) (f : Int) (k : Int) (c : Int) : Bool := bif vev16_0 w s f k != (0 : Int) then true else bif vev10_2 c w then true else false
theorem ev8 (v : Int) (w : Int) (s : Int) (f : Int) (k : Int) (c : Int) : evFun (cfg Try.prog tab 100000 (gk k14 30) noLsp 8 ([] : List Blk).length Try.f8.ntmps) Try.f8 [.int .i64 v, .agg [.int .i64 w, .int .i64 s, .int .i64 f, .int .i64 k], .int .i64 c] [] = bif vev8_5 v w s f k c then some (AV.tup [AV.int IntKind.i64 (vev8_0 v w s f k c), AV.agg [AV.int IntKind.i64 w, AV.int IntKind.i64 (vev8_1 v w s f k c), AV.int IntKind.i64 (vev8_2 v w s f k c), AV.int IntKind.i64 (vev8_3 v w s f k c)], AV.int IntKind.i64 (vev8_4 v w s f k c)], []) else none := by
  have h : evFun (cfg Try.prog tab 100000 (gk k14 30) noLsp 8 ([] : List Blk).length Try.f8.ntmps) Try.f8 [.int .i64 v, .agg [.int .i64 w, .int .i64 s, .int .i64 f, .int .i64 k], .int .i64 c] [] = bif vev16_0 w s f k != (0 : Int) then some (AV.tup [AV.int IntKind.i64 v, AV.agg [AV.int IntKind.i64 w, AV.int IntKind.i64 s, AV.int IntKind.i64 f, AV.int IntKind.i64 k], AV.int IntKind.i64 (vev16_0 w s f k)], []) else bif vev10_2 c w then bif vev10_1 c w != (0 : Int) then some (AV.tup [AV.int IntKind.i64 v, AV.agg [AV.int IntKind.i64 w, AV.int IntKind.i64 s, AV.int IntKind.i64 f, AV.int IntKind.i64 k], AV.int IntKind.i64 (vev10_1 c w)], []) else bif bif decide (IntKind.i64.wrap (k + c) > (1099511627776 : Int)) then true else true then bif bif decide (IntKind.i64.wrap (k + c) > (1099511627776 : Int)) then true else bif false then true else decide (IntKind.i64.wrap (s + vev10_0 c w) > (2305843009213693952 : Int)) then some (AV.tup [AV.int IntKind.i64 v, AV.agg [AV.int IntKind.i64 w, AV.int IntKind.i64 s, AV.int IntKind.i64 f, AV.int IntKind.i64 k], AV.int IntKind.i64 (7 : Int)], []) else some (AV.tup [AV.int IntKind.i64 s, AV.agg [AV.int IntKind.i64 w, AV.int IntKind.i64 (IntKind.i64.wrap (s + vev10_0 c w)), AV.int IntKind.i64 (IntKind.i64.wrap (s + vev10_0 c w)), AV.int IntKind.i64 (IntKind.i64.wrap (k + c))], AV.int IntKind.i64 (0 : Int)], []) else none else none := by kernel_rfl
  rw [h]
  clear h
  unfold vev8_0 vev8_1 vev8_2 vev8_3 vev8_4 vev8_5
  generalize (decide (IntKind.i64.wrap (s + vev10_0 c w) > (2305843009213693952 : Int))) = c0
  generalize (decide (IntKind.i64.wrap (k + c) > (1099511627776 : Int))) = c1
  generalize (vev16_0 w s f k != (0 : Int)) = c2
  generalize (vev10_1 c w != (0 : Int)) = c3
  generalize (vev10_2 c w) = c4
  cases c2
  · skip
    cases c4
    · skip
      rfl
    · skip
      cases c3
      · skip
        cases c1
        · skip
          cases c0
          · skip
            rfl
          · skip
            rfl
        · skip
          rfl
      · skip
        rfl
  · skip
    rfl
-- spec vev8_5 v w s f k c ;; (AV.tup [AV.int IntKind.i64 (vev8_0 v w s f k c), AV.agg [AV.int IntKind.i64 w, AV.int IntKind.i64 (vev8_1 v w s f k c), AV.int IntKind.i64 (vev8_2 v w s f k c), AV.int IntKind.i64 (vev8_3 v w s f k c)], AV.int IntKind.i64 (vev8_4 v w s f k c)], [])
noncomputable def sp8 : List AV → List Blk → Option (Bool × AV × List Blk)
  | [.int .i64 v, .agg [.int .i64 w, .int .i64 s, .int .i64 f, .int .i64 k], .int .i64 c], [] => spW (vev8_5 v w s f k c) (fin Try.prog (tab.frz 8) ([] : List Blk).length Try.f8.resultTypes.toList (some ((AV.tup [AV.int IntKind.i64 (vev8_0 v w s f k c), AV.agg [AV.int IntKind.i64 w, AV.int IntKind.i64 (vev8_1 v w s f k c), AV.int IntKind.i64 (vev8_2 v w s f k c), AV.int IntKind.i64 (vev8_3 v w s f k c)], AV.int IntKind.i64 (vev8_4 v w s f k c)], []))))
  | _, _ => none
noncomputable def k8 : Gam := fun f T C => match Nat.beq f 8 with
  | true => (sp8 T C).or (k14 f T C)
  | false => k14 f T C
theorem k8_ok : GamOK Try.prog k8 := by
  intro f T C r outs h
  unfold k8 at h
  cases hf : Nat.beq f 8 with
  | false => rw [hf] at h; exact k14_ok f T C r outs h
  | true =>
    have hf' := Nat.eq_of_beq_eq_true hf
    subst hf'
    rw [hf] at h
    dsimp only at h
    cases hs : sp8 T C with
    | none => rw [hs] at h; exact k14_ok _ T C r outs h
    | some x =>
      rw [hs] at h
      have hx : x = (true, r, outs) := by simpa using h
      subst hx
      unfold sp8 at hs
      split at hs
      · rename_i v w s f k c
        obtain ⟨hb, hs⟩ := spW_inv hs
        have he := ev8 v w s f k c
        rw [hb] at he
        obtain ⟨h1, h2⟩ := fn_ok mixed plain (gk_ok k14_ok 30) Try.func8 (fun c _ => LoopsOK.none (fun _ _ => rfl) c) he
        exact ⟨h1, h2.fin hs⟩
      · cases hs
theorem ev17 : evFun (cfg Try.prog tab 100000 (gk k8 30) noLsp 17 ([] : List Blk).length Try.f17.ntmps) Try.f17 [] [] = some (AV.bool (bif bif bif bif bif bif true then vev15_0 (vev11_0 (2 : Int)) (vev13_0 (5000000 : Int) (vev11_0 (2 : Int)) (vev7_1 (0 : Int) (vev11_0 (2 : Int)) (0 : Int) (0 : Int) (0 : Int) (6 : Int)) (vev7_2 (0 : Int) (vev11_0 (2 : Int)) (0 : Int) (0 : Int) (0 : Int) (6 : Int)) (vev7_3 (0 : Int) (vev11_0 (2 : Int)) (0 : Int) (0 : Int) (0 : Int) (6 : Int))) (vev7_2 (0 : Int) (vev11_0 (2 : Int)) (0 : Int) (0 : Int) (0 : Int) (6 : Int)) (vev7_3 (0 : Int) (vev11_0 (2 : Int)) (0 : Int) (0 : Int) (0 : Int) (6 : Int)) == (0 : Int) else false then true else false then true else false then true else false then true else false then true else false), []) := by kernel_rfl
-- spec true ;; (AV.bool (bif bif bif bif bif bif true then vev15_0 (vev11_0 (2 : Int)) (vev13_0 (5000000 : Int) (vev11_0 (2 : Int)) (vev7_1 (0 : Int) (vev11_0 (2 : Int)) (0 : Int) (0 : Int) (0 : Int) (6 : Int)) (vev7_2 (0 : Int) (vev11_0 (2 : Int)) (0 : Int) (0 : Int) (0 : Int) (6 : Int)) (vev7_3 (0 : Int) (vev11_0 (2 : Int)) (0 : Int) (0 : Int) (0 : Int) (6 : Int))) (vev7_2 (0 : Int) (vev11_0 (2 : Int)) (0 : Int) (0 : Int) (0 : Int) (6 : Int)) (vev7_3 (0 : Int) (vev11_0 (2 : Int)) (0 : Int) (0 : Int) (0 : Int) (6 : Int)) == (0 : Int) else false then true else false then true else false then true else false then true else false then true else false), [])
noncomputable def sp17 : List AV → List Blk → Option (Bool × AV × List Blk)
  | [], [] => spW (true) (fin Try.prog (tab.frz 17) ([] : List Blk).length Try.f17.resultTypes.toList (some ((AV.bool (bif bif bif bif bif bif true then vev15_0 (vev11_0 (2 : Int)) (vev13_0 (5000000 : Int) (vev11_0 (2 : Int)) (vev7_1 (0 : Int) (vev11_0 (2 : Int)) (0 : Int) (0 : Int) (0 : Int) (6 : Int)) (vev7_2 (0 : Int) (vev11_0 (2 : Int)) (0 : Int) (0 : Int) (0 : Int) (6 : Int)) (vev7_3 (0 : Int) (vev11_0 (2 : Int)) (0 : Int) (0 : Int) (0 : Int) (6 : Int))) (vev7_2 (0 : Int) (vev11_0 (2 : Int)) (0 : Int) (0 : Int) (0 : Int) (6 : Int)) (vev7_3 (0 : Int) (vev11_0 (2 : Int)) (0 : Int) (0 : Int) (0 : Int) (6 : Int)) == (0 : Int) else false then true else false then true else false then true else false then true else false then true else false), []))))
  | _, _ => none
noncomputable def k17 : Gam := fun f T C => match Nat.beq f 17 with
  | true => (sp17 T C).or (k8 f T C)
  | false => k8 f T C
theorem k17_ok : GamOK Try.prog k17 := by
  intro f T C r outs h
  unfold k17 at h
  cases hf : Nat.beq f 17 with
  | false => rw [hf] at h; exact k8_ok f T C r outs h
  | true =>
    have hf' := Nat.eq_of_beq_eq_true hf
    subst hf'
    rw [hf] at h
    dsimp only at h
    cases hs : sp17 T C with
    | none => rw [hs] at h; exact k8_ok _ T C r outs h
    | some x =>
      rw [hs] at h
      have hx : x = (true, r, outs) := by simpa using h
      subst hx
      unfold sp17 at hs
      split at hs
      · obtain ⟨hb, hs⟩ := spW_inv hs
        have he := ev17 
        obtain ⟨h1, h2⟩ := fn_ok mixed plain (gk_ok k8_ok 30) Try.func17 (fun c _ => LoopsOK.none (fun _ _ => rfl) c) he
        exact ⟨h1, h2.fin hs⟩
      · cases hs
end Go.Proofs.Gv
