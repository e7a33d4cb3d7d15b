import Derived.Test.YtdickgcdjmhgiaaGt
import Derived.KernelRfl
import Derived.Test.YtdickgcdjmhgiaaGsOut
import Derived.Test.YtdickgcdjmhgiaaGcOut
namespace Go.Proofs.Gv
open Go.Proofs
set_option linter.unusedVariables false
noncomputable def vev16_0 (es : List (List AV)) (a : Int) (b : Int) : Int := sumW ((0 : Int), es, (↑es.length : Int), nat_lit 0).fst (List.drop ((0 : Int), es, (↑es.length : Int), nat_lit 0).snd.snd.snd ((0 : Int), es, (↑es.length : Int), nat_lit 0).snd.fst)
noncomputable def vev16_1 (es : List (List AV)) (a : Int) (b : Int) : Bool := bif (sp16L ((0 : Int), es, (↑es.length : Int), nat_lit 0)).fst then true else false
theorem ev16 (es : List (List AV)) (a : Int) (b : Int) : evFun (cfg Try.prog tab 100000 (gk k24 30) lsp16 16 ([] : List Blk).length Try.f16.ntmps) Try.f16 [.agg [.sl .imm [.str] es, .int .i64 a, .int .i64 b]] [] = bif vev16_1 es a b then some (AV.int IntKind.i64 (vev16_0 es a b), []) else none := by
  have h : evFun (cfg Try.prog tab 100000 (gk k24 30) lsp16 16 ([] : List Blk).length Try.f16.ntmps) Try.f16 [.agg [.sl .imm [.str] es, .int .i64 a, .int .i64 b]] [] = bif (sp16L ((0 : Int), es, (↑es.length : Int), nat_lit 0)).fst then some (AV.int IntKind.i64 (sumW ((0 : Int), es, (↑es.length : Int), nat_lit 0).fst (List.drop ((0 : Int), es, (↑es.length : Int), nat_lit 0).snd.snd.snd ((0 : Int), es, (↑es.length : Int), nat_lit 0).snd.fst)), []) else none := by kernel_rfl
  rw [h]
  clear h
  unfold vev16_0 vev16_1
  generalize ((sp16L ((0 : Int), es, (↑es.length : Int), nat_lit 0)).fst) = c0
  cases c0
  · skip
    rfl
  · skip
    rfl
-- spec vev16_1 es a b ;; (AV.int IntKind.i64 (vev16_0 es a b), [])
noncomputable def sp16 : List AV → List Blk → Option (Bool × AV × List Blk)
  | [.agg [.sl .imm [.str] es, .int .i64 a, .int .i64 b]], [] => spW (vev16_1 es a b) (fin Try.prog (tab.frz 16) ([] : List Blk).length Try.f16.resultTypes.toList (some ((AV.int IntKind.i64 (vev16_0 es a b), []))))
  | _, _ => none
noncomputable def k16 : Gam := fun f T C => match Nat.beq f 16 with
  | true => (sp16 T C).or (k24 f T C)
  | false => k24 f T C
theorem k16_ok : GamOK Try.prog k16 := by
  intro f T C r outs h
  unfold k16 at h
  cases hf : Nat.beq f 16 with
  | false => rw [hf] at h; exact k24_ok f T C r outs h
  | true =>
    have hf' := Nat.eq_of_beq_eq_true hf
    subst hf'
    rw [hf] at h
    dsimp only at h
    cases hs : sp16 T C with
    | none => rw [hs] at h; exact k24_ok _ T C r outs h
    | some x =>
      rw [hs] at h
      have hx : x = (true, r, outs) := by simpa using h
      subst hx
      unfold sp16 at hs
      split at hs
      · rename_i es a b
        obtain ⟨hb, hs⟩ := spW_inv hs
        have he := ev16 es a b
        rw [hb] at he
        obtain ⟨h1, h2⟩ := fn_ok mixed plain (gk_ok k24_ok 30) Try.func16 (loops16 (gk k24 30)) he
        exact ⟨h1, h2.fin hs⟩
      · cases hs
noncomputable def vev17_0 (es : List (List AV)) (a : Int) (b : Int) : Int := sumW (es, a, b, (0 : Int), nat_lit 0).snd.snd.snd.fst (List.drop (es, a, b, (0 : Int), nat_lit 0).snd.snd.snd.snd (es, a, b, (0 : Int), nat_lit 0).fst)
noncomputable def vev17_1 (es : List (List AV)) (a : Int) (b : Int) : Bool := bif (sp17L (es, a, b, (0 : Int), nat_lit 0)).fst then true else false
theorem ev17 (es : List (List AV)) (a : Int) (b : Int) : evFun (cfg Try.prog tab 100000 (gk k16 30) lsp17 17 ([] : List Blk).length Try.f17.ntmps) Try.f17 [.agg [.sl .imm [.str] es, .int .i64 a, .int .i64 b]] [] = bif vev17_1 es a b then some (AV.int IntKind.i64 (vev17_0 es a b), []) else none := by
  have h : evFun (cfg Try.prog tab 100000 (gk k16 30) lsp17 17 ([] : List Blk).length Try.f17.ntmps) Try.f17 [.agg [.sl .imm [.str] es, .int .i64 a, .int .i64 b]] [] = bif (sp17L (es, a, b, (0 : Int), nat_lit 0)).fst then some (AV.int IntKind.i64 (sumW (es, a, b, (0 : Int), nat_lit 0).snd.snd.snd.fst (List.drop (es, a, b, (0 : Int), nat_lit 0).snd.snd.snd.snd (es, a, b, (0 : Int), nat_lit 0).fst)), []) else none := by kernel_rfl
  rw [h]
  clear h
  unfold vev17_0 vev17_1
  generalize ((sp17L (es, a, b, (0 : Int), nat_lit 0)).fst) = c0
  cases c0
  · skip
    rfl
  · skip
    rfl
-- spec vev17_1 es a b ;; (AV.int IntKind.i64 (vev17_0 es a b), [])
noncomputable def sp17 : List AV → List Blk → Option (Bool × AV × List Blk)
  | [.agg [.sl .imm [.str] es, .int .i64 a, .int .i64 b]], [] => spW (vev17_1 es a b) (fin Try.prog (tab.frz 17) ([] : List Blk).length Try.f17.resultTypes.toList (some ((AV.int IntKind.i64 (vev17_0 es a b), []))))
  | _, _ => none
noncomputable def k17 : Gam := fun f T C => match Nat.beq f 17 with
  | true => (sp17 T C).or (k16 f T C)
  | false => k16 f T C
theorem k17_ok : GamOK Try.prog k17 := by
  intro f T C r outs h
  unfold k17 at h
  cases hf : Nat.beq f 17 with
  | false => rw [hf] at h; exact k16_ok f T C r outs h
  | true =>
    have hf' := Nat.eq_of_beq_eq_true hf
    subst hf'
    rw [hf] at h
    dsimp only at h
    cases hs : sp17 T C with
    | none => rw [hs] at h; exact k16_ok _ T C r outs h
    | some x =>
      rw [hs] at h
      have hx : x = (true, r, outs) := by simpa using h
      subst hx
      unfold sp17 at hs
      split at hs
      · rename_i es a b
        obtain ⟨hb, hs⟩ := spW_inv hs
        have he := ev17 es a b
        rw [hb] at he
        obtain ⟨h1, h2⟩ := fn_ok mixed plain (gk_ok k16_ok 30) Try.func17 (loops17 (gk k16 30)) he
        exact ⟨h1, h2.fin hs⟩
      · cases hs
noncomputable def vev27_0 (es : List (List AV)) (x : List UInt8) : Int := bif hasS x (List.drop (nat_lit 0) es) then Int.ofNat (atS x (nat_lit 0) (List.drop (nat_lit 0) es)) else (-1 : Int)
noncomputable def vev27_1 (es : List (List AV)) (x : List UInt8) : Bool := bif (sp27L (es, x, (↑es.length : Int), nat_lit 0)).fst then true else false
theorem ev27 (es : List (List AV)) (x : List UInt8) : evFun (cfg Try.prog tab 100000 (gk k17 30) lsp27 27 ([] : List Blk).length Try.f27.ntmps) Try.f27 [.sl .imm [.str] es, .str x] [] = bif vev27_1 es x then some (AV.int IntKind.i64 (vev27_0 es x), []) else none := by
  have h : evFun (cfg Try.prog tab 100000 (gk k17 30) lsp27 27 ([] : List Blk).length Try.f27.ntmps) Try.f27 [.sl .imm [.str] es, .str x] [] = bif (sp27L (es, x, (↑es.length : Int), nat_lit 0)).fst then bif hasS x (List.drop (nat_lit 0) es) then some (AV.int IntKind.i64 (Int.ofNat (atS x (nat_lit 0) (List.drop (nat_lit 0) es))), []) else some (AV.int IntKind.i64 (-1 : Int), []) else none := by kernel_rfl
  rw [h]
  clear h
  unfold vev27_0 vev27_1
  generalize ((sp27L (es, x, (↑es.length : Int), nat_lit 0)).fst) = c0
  generalize (hasS x (List.drop (nat_lit 0) es)) = c1
  cases c0
  · skip
    rfl
  · skip
    cases c1
    · skip
      rfl
    · skip
      rfl
-- spec vev27_1 es x ;; (AV.int IntKind.i64 (vev27_0 es x), [])
noncomputable def sp27 : List AV → List Blk → Option (Bool × AV × List Blk)
  | [.sl .imm [.str] es, .str x], [] => spW (vev27_1 es x) (fin Try.prog (tab.frz 27) ([] : List Blk).length Try.f27.resultTypes.toList (some ((AV.int IntKind.i64 (vev27_0 es x), []))))
  | _, _ => none
noncomputable def k27 : Gam := fun f T C => match Nat.beq f 27 with
  | true => (sp27 T C).or (k17 f T C)
  | false => k17 f T C
theorem k27_ok : GamOK Try.prog k27 := by
  intro f T C r outs h
  unfold k27 at h
  cases hf : Nat.beq f 27 with
  | false => rw [hf] at h; exact k17_ok f T C r outs h
  | true =>
    have hf' := Nat.eq_of_beq_eq_true hf
    subst hf'
    rw [hf] at h
    dsimp only at h
    cases hs : sp27 T C with
    | none => rw [hs] at h; exact k17_ok _ T C r outs h
    | some x =>
      rw [hs] at h
      have hx : x = (true, r, outs) := by simpa using h
      subst hx
      unfold sp27 at hs
      split at hs
      · rename_i es x
        obtain ⟨hb, hs⟩ := spW_inv hs
        have he := ev27 es x
        rw [hb] at he
        obtain ⟨h1, h2⟩ := fn_ok mixed plain (gk_ok k17_ok 30) Try.func27 (loops27 (gk k17 30)) he
        exact ⟨h1, h2.fin hs⟩
      · cases hs
noncomputable def vev22_0 (es : List (List AV)) (x : List UInt8) : Bool := decide (vev27_0 es x ≥ (0 : Int))
noncomputable def vev22_1 (es : List (List AV)) (x : List UInt8) : Bool := bif vev27_1 es x then true else false
theorem ev22 (es : List (List AV)) (x : List UInt8) : evFun (cfg Try.prog tab 100000 (gk k27 30) noLsp 22 ([] : List Blk).length Try.f22.ntmps) Try.f22 [.sl .imm [.str] es, .str x] [] = bif vev22_1 es x then some (AV.bool (vev22_0 es x), []) else none := by
  have h : evFun (cfg Try.prog tab 100000 (gk k27 30) noLsp 22 ([] : List Blk).length Try.f22.ntmps) Try.f22 [.sl .imm [.str] es, .str x] [] = bif vev27_1 es x then some (AV.bool (decide (vev27_0 es x ≥ (0 : Int))), []) else none := by kernel_rfl
  rw [h]
  clear h
  unfold vev22_0 vev22_1
  generalize (vev27_1 es x) = c0
  cases c0
  · skip
    rfl
  · skip
    rfl
-- spec vev22_1 es x ;; (AV.bool (vev22_0 es x), [])
noncomputable def sp22 : List AV → List Blk → Option (Bool × AV × List Blk)
  | [.sl .imm [.str] es, .str x], [] => spW (vev22_1 es x) (fin Try.prog (tab.frz 22) ([] : List Blk).length Try.f22.resultTypes.toList (some ((AV.bool (vev22_0 es x), []))))
  | _, _ => none
noncomputable def k22 : Gam := fun f T C => match Nat.beq f 22 with
  | true => (sp22 T C).or (k27 f T C)
  | false => k27 f T C
theorem k22_ok : GamOK Try.prog k22 := by
  intro f T C r outs h
  unfold k22 at h
  cases hf : Nat.beq f 22 with
  | false => rw [hf] at h; exact k27_ok f T C r outs h
  | true =>
    have hf' := Nat.eq_of_beq_eq_true hf
    subst hf'
    rw [hf] at h
    dsimp only at h
    cases hs : sp22 T C with
    | none => rw [hs] at h; exact k27_ok _ T C r outs h
    | some x =>
      rw [hs] at h
      have hx : x = (true, r, outs) := by simpa using h
      subst hx
      unfold sp22 at hs
      split at hs
      · rename_i es x
        obtain ⟨hb, hs⟩ := spW_inv hs
        have he := ev22 es x
        rw [hb] at he
        obtain ⟨h1, h2⟩ := fn_ok mixed plain (gk_ok k27_ok 30) Try.func22 (fun c _ => LoopsOK.none (fun _ _ => rfl) c) he
        exact ⟨h1, h2.fin hs⟩
      · cases hs
noncomputable def vev25_0 (es : List (List AV)) (es2 : List (List AV)) : Bool := bif (↑es.length : Int) != (↑es2.length : Int) then false else bif missS (List.drop (nat_lit 0) es) (List.drop (nat_lit 0) es2) then false else true
noncomputable def vev25_1 (es : List (List AV)) (es2 : List (List AV)) : Bool := bif (↑es.length : Int) != (↑es2.length : Int) then true else bif (sp25L (es, es2, (↑es.length : Int), nat_lit 0)).fst then true else false
theorem ev25 (es : List (List AV)) (es2 : List (List AV)) : evFun (cfg Try.prog tab 100000 (gk k22 30) lsp25 25 ([] : List Blk).length Try.f25.ntmps) Try.f25 [.sl .imm [.str] es, .sl .imm [.str] es2] [] = bif vev25_1 es es2 then some (AV.bool (vev25_0 es es2), []) else none := by
  have h : evFun (cfg Try.prog tab 100000 (gk k22 30) lsp25 25 ([] : List Blk).length Try.f25.ntmps) Try.f25 [.sl .imm [.str] es, .sl .imm [.str] es2] [] = bif (↑es.length : Int) != (↑es2.length : Int) then some (AV.bool false, []) else bif (sp25L (es, es2, (↑es.length : Int), nat_lit 0)).fst then bif missS (List.drop (nat_lit 0) es) (List.drop (nat_lit 0) es2) then some (AV.bool false, []) else some (AV.bool true, []) else none := by kernel_rfl
  rw [h]
  clear h
  unfold vev25_0 vev25_1
  generalize ((sp25L (es, es2, (↑es.length : Int), nat_lit 0)).fst) = c0
  generalize ((↑es.length : Int) != (↑es2.length : Int)) = c1
  generalize (missS (List.drop (nat_lit 0) es) (List.drop (nat_lit 0) es2)) = c2
  cases c1
  · skip
    cases c0
    · skip
      rfl
    · skip
      cases c2
      · skip
        rfl
      · skip
        rfl
  · skip
    rfl
-- spec vev25_1 es es2 ;; (AV.bool (vev25_0 es es2), [])
noncomputable def sp25 : List AV → List Blk → Option (Bool × AV × List Blk)
  | [.sl .imm [.str] es, .sl .imm [.str] es2], [] => spW (vev25_1 es es2) (fin Try.prog (tab.frz 25) ([] : List Blk).length Try.f25.resultTypes.toList (some ((AV.bool (vev25_0 es es2), []))))
  | _, _ => none
noncomputable def k25 : Gam := fun f T C => match Nat.beq f 25 with
  | true => (sp25 T C).or (k22 f T C)
  | false => k22 f T C
theorem k25_ok : GamOK Try.prog k25 := by
  intro f T C r outs h
  unfold k25 at h
  cases hf : Nat.beq f 25 with
  | false => rw [hf] at h; exact k22_ok f T C r outs h
  | true =>
    have hf' := Nat.eq_of_beq_eq_true hf
    subst hf'
    rw [hf] at h
    dsimp only at h
    cases hs : sp25 T C with
    | none => rw [hs] at h; exact k22_ok _ T C r outs h
    | some x =>
      rw [hs] at h
      have hx : x = (true, r, outs) := by simpa using h
      subst hx
      unfold sp25 at hs
      split at hs
      · rename_i es es2
        obtain ⟨hb, hs⟩ := spW_inv hs
        have he := ev25 es es2
        rw [hb] at he
        obtain ⟨h1, h2⟩ := fn_ok mixed plain (gk_ok k22_ok 30) Try.func25 (loops25 (gk k22 30)) he
        exact ⟨h1, h2.fin hs⟩
      · cases hs
noncomputable def vev14_0 (es : List (List AV)) (a : Int) (b : Int) : Int := bif vev22_0 es (ByteArray.mk #[]).data.toList then (4 : Int) else bif decide (vev16_0 es a b > (65536 : Int)) then (7 : Int) else bif bif !vev23_0 a then true else !vev23_0 b then (8 : Int) else bif IntKind.i64.wrap (a - b) != vev16_0 es a b then (10 : Int) else (0 : Int)
noncomputable def vev14_1 (es : List (List AV)) (a : Int) (b : Int) : Bool := bif vev16_1 es a b then bif vev22_1 es (ByteArray.mk #[]).data.toList then true else false else false
theorem ev14 (es : List (List AV)) (a : Int) (b : Int) : evFun (cfg Try.prog tab 100000 (gk k25 30) noLsp 14 ([] : List Blk).length Try.f14.ntmps) Try.f14 [.agg [.sl .imm [.str] es, .int .i64 a, .int .i64 b]] [] = bif vev14_1 es a b then some (AV.int IntKind.i64 (vev14_0 es a b), []) else none := by
  have h : evFun (cfg Try.prog tab 100000 (gk k25 30) noLsp 14 ([] : List Blk).length Try.f14.ntmps) Try.f14 [.agg [.sl .imm [.str] es, .int .i64 a, .int .i64 b]] [] = bif vev16_1 es a b then bif vev22_1 es (ByteArray.mk #[]).data.toList then bif vev22_0 es (ByteArray.mk #[]).data.toList then some (AV.int IntKind.i64 (4 : Int), []) else bif decide (vev16_0 es a b > (65536 : Int)) then some (AV.int IntKind.i64 (7 : Int), []) else bif bif !vev23_0 a then true else true then bif bif !vev23_0 a then true else bif false then true else !vev23_0 b then some (AV.int IntKind.i64 (8 : Int), []) else bif IntKind.i64.wrap (a - b) != vev16_0 es a b then some (AV.int IntKind.i64 (10 : Int), []) else some (AV.int IntKind.i64 (0 : Int), []) else none else none else none := by kernel_rfl
  rw [h]
  clear h
  unfold vev14_0 vev14_1
  generalize (decide (vev16_0 es a b > (65536 : Int))) = c0
  generalize (IntKind.i64.wrap (a - b) != vev16_0 es a b) = c1
  generalize (vev22_1 es (ByteArray.mk #[]).data.toList) = c2
  generalize (vev22_0 es (ByteArray.mk #[]).data.toList) = c3
  generalize (vev16_1 es a b) = c4
  generalize (!vev23_0 a) = c5
  generalize (!vev23_0 b) = c6
  cases c4
  · skip
    rfl
  · skip
    cases c2
    · skip
      rfl
    · skip
      cases c3
      · skip
        cases c0
        · skip
          cases c5
          · skip
            cases c6
            · skip
              cases c1
              · skip
                rfl
              · skip
                rfl
            · skip
              rfl
          · skip
            rfl
        · skip
          rfl
      · skip
        rfl
-- spec vev14_1 es a b ;; (AV.int IntKind.i64 (vev14_0 es a b), [])
noncomputable def sp14 : List AV → List Blk → Option (Bool × AV × List Blk)
  | [.agg [.sl .imm [.str] es, .int .i64 a, .int .i64 b]], [] => spW (vev14_1 es a b) (fin Try.prog (tab.frz 14) ([] : List Blk).length Try.f14.resultTypes.toList (some ((AV.int IntKind.i64 (vev14_0 es a b), []))))
  | _, _ => none
noncomputable def k14 : Gam := fun f T C => match Nat.beq f 14 with
  | true => (sp14 T C).or (k25 f T C)
  | false => k25 f T C
theorem k14_ok : GamOK Try.prog k14 := by
  intro f T C r outs h
  unfold k14 at h
  cases hf : Nat.beq f 14 with
  | false => rw [hf] at h; exact k25_ok f T C r outs h
  | true =>
    have hf' := Nat.eq_of_beq_eq_true hf
    subst hf'
    rw [hf] at h
    dsimp only at h
    cases hs : sp14 T C with
    | none => rw [hs] at h; exact k25_ok _ T C r outs h
    | some x =>
      rw [hs] at h
      have hx : x = (true, r, outs) := by simpa using h
      subst hx
      unfold sp14 at hs
      split at hs
      · rename_i es a b
        obtain ⟨hb, hs⟩ := spW_inv hs
        have he := ev14 es a b
        rw [hb] at he
        obtain ⟨h1, h2⟩ := fn_ok mixed plain (gk_ok k25_ok 30) Try.func14 (fun c _ => LoopsOK.none (fun _ _ => rfl) c) he
        exact ⟨h1, h2.fin hs⟩
      · cases hs
noncomputable def vev15_0 (es : List (List AV)) (a : Int) (b : Int) : Int := bif emptyS (List.drop (nat_lit 0) es) then (4 : Int) else bif decide (vev17_0 es a b > (65536 : Int)) then (7 : Int) else bif bif !vev24_0 a then true else !vev24_0 b then (8 : Int) else bif a != IntKind.i64.wrap (b + vev17_0 es a b) then (10 : Int) else (0 : Int)
noncomputable def vev15_1 (es : List (List AV)) (a : Int) (b : Int) : Bool := bif (sp15L (es, a, b, nat_lit 0)).fst then bif emptyS (List.drop (nat_lit 0) es) then true else bif vev17_1 es a b then true else false else false
theorem ev15 (es : List (List AV)) (a : Int) (b : Int) : evFun (cfg Try.prog tab 100000 (gk k14 30) lsp15 15 ([] : List Blk).length Try.f15.ntmps) Try.f15 [.agg [.sl .imm [.str] es, .int .i64 a, .int .i64 b]] [] = bif vev15_1 es a b then some (AV.int IntKind.i64 (vev15_0 es a b), []) else none := by
  have h : evFun (cfg Try.prog tab 100000 (gk k14 30) lsp15 15 ([] : List Blk).length Try.f15.ntmps) Try.f15 [.agg [.sl .imm [.str] es, .int .i64 a, .int .i64 b]] [] = bif (sp15L (es, a, b, nat_lit 0)).fst then bif emptyS (List.drop (nat_lit 0) es) then some (AV.int IntKind.i64 (4 : Int), []) else bif vev17_1 es a b then bif decide (vev17_0 es a b > (65536 : Int)) then some (AV.int IntKind.i64 (7 : Int), []) else bif bif !vev24_0 a then true else true then bif bif !vev24_0 a then true else bif false then true else !vev24_0 b then some (AV.int IntKind.i64 (8 : Int), []) else bif vev17_1 es a b then bif a != IntKind.i64.wrap (b + vev17_0 es a b) then some (AV.int IntKind.i64 (10 : Int), []) else some (AV.int IntKind.i64 (0 : Int), []) else none else none else none else none := by kernel_rfl
  rw [h]
  clear h
  unfold vev15_0 vev15_1
  generalize ((sp15L (es, a, b, nat_lit 0)).fst) = c0
  generalize (decide (vev17_0 es a b > (65536 : Int))) = c1
  generalize (a != IntKind.i64.wrap (b + vev17_0 es a b)) = c2
  generalize (emptyS (List.drop (nat_lit 0) es)) = c3
  generalize (vev17_1 es a b) = c4
  generalize (!vev24_0 a) = c5
  generalize (!vev24_0 b) = c6
  cases c0
  · skip
    rfl
  · skip
    cases c3
    · skip
      cases c4
      · skip
        rfl
      · skip
        cases c1
        · skip
          cases c5
          · skip
            cases c6
            · skip
              cases c2
              · skip
                rfl
              · skip
                rfl
            · skip
              rfl
          · skip
            rfl
        · skip
          rfl
    · skip
      rfl
-- spec vev15_1 es a b ;; (AV.int IntKind.i64 (vev15_0 es a b), [])
noncomputable def sp15 : List AV → List Blk → Option (Bool × AV × List Blk)
  | [.agg [.sl .imm [.str] es, .int .i64 a, .int .i64 b]], [] => spW (vev15_1 es a b) (fin Try.prog (tab.frz 15) ([] : List Blk).length Try.f15.resultTypes.toList (some ((AV.int IntKind.i64 (vev15_0 es a b), []))))
  | _, _ => none
noncomputable def k15 : Gam := fun f T C => match Nat.beq f 15 with
  | true => (sp15 T C).or (k14 f T C)
  | false => k14 f T C
theorem k15_ok : GamOK Try.prog k15 := by
  intro f T C r outs h
  unfold k15 at h
  cases hf : Nat.beq f 15 with
  | false => rw [hf] at h; exact k14_ok f T C r outs h
  | true =>
    have hf' := Nat.eq_of_beq_eq_true hf
    subst hf'
    rw [hf] at h
    dsimp only at h
    cases hs : sp15 T C with
    | none => rw [hs] at h; exact k14_ok _ T C r outs h
    | some x =>
      rw [hs] at h
      have hx : x = (true, r, outs) := by simpa using h
      subst hx
      unfold sp15 at hs
      split at hs
      · rename_i es a b
        obtain ⟨hb, hs⟩ := spW_inv hs
        have he := ev15 es a b
        rw [hb] at he
        obtain ⟨h1, h2⟩ := fn_ok mixed plain (gk_ok k14_ok 30) Try.func15 (loops15 (gk k14 30)) he
        exact ⟨h1, h2.fin hs⟩
      · cases hs
noncomputable def vev18_0 (es : List (List AV)) (a : Int) (b : Int) : Int := bif vev14_0 es a b != (0 : Int) then (0 : Int) else IntKind.i64.wrap ((65536 : Int) - vev16_0 es a b)
noncomputable def vev18_1 (es : List (List AV)) (a : Int) (b : Int) : Bool := bif vev14_1 es a b then bif vev14_0 es a b != (0 : Int) then true else bif vev16_1 es a b then true else false else false
theorem ev18 (es : List (List AV)) (a : Int) (b : Int) : evFun (cfg Try.prog tab 100000 (gk k15 30) noLsp 18 ([] : List Blk).length Try.f18.ntmps) Try.f18 [.agg [.sl .imm [.str] es, .int .i64 a, .int .i64 b]] [] = bif vev18_1 es a b then some (AV.int IntKind.i64 (vev18_0 es a b), []) else none := by
  have h : evFun (cfg Try.prog tab 100000 (gk k15 30) noLsp 18 ([] : List Blk).length Try.f18.ntmps) Try.f18 [.agg [.sl .imm [.str] es, .int .i64 a, .int .i64 b]] [] = bif vev14_1 es a b then bif vev14_0 es a b != (0 : Int) then some (AV.int IntKind.i64 (0 : Int), []) else bif vev16_1 es a b then some (AV.int IntKind.i64 (IntKind.i64.wrap ((65536 : Int) - vev16_0 es a b)), []) else none else none := by kernel_rfl
  rw [h]
  clear h
  unfold vev18_0 vev18_1
  generalize (vev14_0 es a b != (0 : Int)) = c0
  generalize (vev16_1 es a b) = c1
  generalize (vev14_1 es a b) = c2
  cases c2
  · skip
    rfl
  · skip
    cases c0
    · skip
      cases c1
      · skip
        rfl
      · skip
        rfl
    · skip
      rfl
-- spec vev18_1 es a b ;; (AV.int IntKind.i64 (vev18_0 es a b), [])
noncomputable def sp18 : List AV → List Blk → Option (Bool × AV × List Blk)
  | [.agg [.sl .imm [.str] es, .int .i64 a, .int .i64 b]], [] => spW (vev18_1 es a b) (fin Try.prog (tab.frz 18) ([] : List Blk).length Try.f18.resultTypes.toList (some ((AV.int IntKind.i64 (vev18_0 es a b), []))))
  | _, _ => none
noncomputable def k18 : Gam := fun f T C => match Nat.beq f 18 with
  | true => (sp18 T C).or (k15 f T C)
  | false => k15 f T C
theorem k18_ok : GamOK Try.prog k18 := by
  intro f T C r outs h
  unfold k18 at h
  cases hf : Nat.beq f 18 with
  | false => rw [hf] at h; exact k15_ok f T C r outs h
  | true =>
    have hf' := Nat.eq_of_beq_eq_true hf
    subst hf'
    rw [hf] at h
    dsimp only at h
    cases hs : sp18 T C with
    | none => rw [hs] at h; exact k15_ok _ T C r outs h
    | some x =>
      rw [hs] at h
      have hx : x = (true, r, outs) := by simpa using h
      subst hx
      unfold sp18 at hs
      split at hs
      · rename_i es a b
        obtain ⟨hb, hs⟩ := spW_inv hs
        have he := ev18 es a b
        rw [hb] at he
        obtain ⟨h1, h2⟩ := fn_ok mixed plain (gk_ok k15_ok 30) Try.func18 (fun c _ => LoopsOK.none (fun _ _ => rfl) c) he
        exact ⟨h1, h2.fin hs⟩
      · cases hs
noncomputable def vev19_0 (es : List (List AV)) (a : Int) (b : Int) : Int := bif vev15_0 es a b != (0 : Int) then (0 : Int) else IntKind.i64.wrap ((65536 : Int) - vev17_0 es a b)
noncomputable def vev19_1 (es : List (List AV)) (a : Int) (b : Int) : Bool := bif vev15_1 es a b then bif vev15_0 es a b != (0 : Int) then true else bif vev17_1 es a b then true else false else false
theorem ev19 (es : List (List AV)) (a : Int) (b : Int) : evFun (cfg Try.prog tab 100000 (gk k18 30) noLsp 19 ([] : List Blk).length Try.f19.ntmps) Try.f19 [.agg [.sl .imm [.str] es, .int .i64 a, .int .i64 b]] [] = bif vev19_1 es a b then some (AV.int IntKind.i64 (vev19_0 es a b), []) else none := by
  have h : evFun (cfg Try.prog tab 100000 (gk k18 30) noLsp 19 ([] : List Blk).length Try.f19.ntmps) Try.f19 [.agg [.sl .imm [.str] es, .int .i64 a, .int .i64 b]] [] = bif vev15_1 es a b then bif vev15_0 es a b != (0 : Int) then some (AV.int IntKind.i64 (0 : Int), []) else bif vev17_1 es a b then some (AV.int IntKind.i64 (IntKind.i64.wrap ((65536 : Int) - vev17_0 es a b)), []) else none else none := by kernel_rfl
  rw [h]
  clear h
  unfold vev19_0 vev19_1
  generalize (vev15_0 es a b != (0 : Int)) = c0
  generalize (vev17_1 es a b) = c1
  generalize (vev15_1 es a b) = c2
  cases c2
  · skip
    rfl
  · skip
    cases c0
    · skip
      cases c1
      · skip
        rfl
      · skip
        rfl
    · skip
      rfl
-- spec vev19_1 es a b ;; (AV.int IntKind.i64 (vev19_0 es a b), [])
noncomputable def sp19 : List AV → List Blk → Option (Bool × AV × List Blk)
  | [.agg [.sl .imm [.str] es, .int .i64 a, .int .i64 b]], [] => spW (vev19_1 es a b) (fin Try.prog (tab.frz 19) ([] : List Blk).length Try.f19.resultTypes.toList (some ((AV.int IntKind.i64 (vev19_0 es a b), []))))
  | _, _ => none
noncomputable def k19 : Gam := fun f T C => match Nat.beq f 19 with
  | true => (sp19 T C).or (k18 f T C)
  | false => k18 f T C
theorem k19_ok : GamOK Try.prog k19 := by
  intro f T C r outs h
  unfold k19 at h
  cases hf : Nat.beq f 19 with
  | false => rw [hf] at h; exact k18_ok f T C r outs h
  | true =>
    have hf' := Nat.eq_of_beq_eq_true hf
    subst hf'
    rw [hf] at h
    dsimp only at h
    cases hs : sp19 T C with
    | none => rw [hs] at h; exact k18_ok _ T C r outs h
    | some x =>
      rw [hs] at h
      have hx : x = (true, r, outs) := by simpa using h
      subst hx
      unfold sp19 at hs
      split at hs
      · rename_i es a b
        obtain ⟨hb, hs⟩ := spW_inv hs
        have he := ev19 es a b
        rw [hb] at he
        obtain ⟨h1, h2⟩ := fn_ok mixed plain (gk_ok k18_ok 30) Try.func19 (fun c _ => LoopsOK.none (fun _ _ => rfl) c) he
        exact ⟨h1, h2.fin hs⟩
      · cases hs
noncomputable def vev20_0 (es : List (List AV)) (a : Int) (b : Int) (es2 : List (List AV)) (a2 : Int) (b2 : Int) : Bool := bif a == a2 then bif bif true then b == b2 else false then bif vev25_1 es es2 then bif true then vev25_0 es es2 else false else false else false else false
noncomputable def vev20_1 (es : List (List AV)) (a : Int) (b : Int) (es2 : List (List AV)) (a2 : Int) (b2 : Int) : Bool := bif bif a == a2 then bif b == b2 then vev25_1 es es2 else true else true then true else false
theorem ev20 (es : List (List AV)) (a : Int) (b : Int) (es2 : List (List AV)) (a2 : Int) (b2 : Int) : evFun (cfg Try.prog tab 100000 (gk k19 30) noLsp 20 ([] : List Blk).length Try.f20.ntmps) Try.f20 [.agg [.sl .imm [.str] es, .int .i64 a, .int .i64 b], .agg [.sl .imm [.str] es2, .int .i64 a2, .int .i64 b2]] [] = bif vev20_1 es a b es2 a2 b2 then some (AV.bool (vev20_0 es a b es2 a2 b2), []) else none := by
  have h : evFun (cfg Try.prog tab 100000 (gk k19 30) noLsp 20 ([] : List Blk).length Try.f20.ntmps) Try.f20 [.agg [.sl .imm [.str] es, .int .i64 a, .int .i64 b], .agg [.sl .imm [.str] es2, .int .i64 a2, .int .i64 b2]] [] = bif bif a == a2 then bif bif true then b == b2 else false then bif vev25_1 es es2 then true else false else true else true then some (AV.bool (bif a == a2 then bif bif true then b == b2 else false then bif vev25_1 es es2 then bif true then vev25_0 es es2 else false else false else false else false), []) else none := by kernel_rfl
  rw [h]
  clear h
  unfold vev20_0 vev20_1
  generalize (b == b2) = c0
  generalize (a == a2) = c1
  generalize (vev25_1 es es2) = c2
  cases c1
  · skip
    rfl
  · skip
    cases c0
    · skip
      rfl
    · skip
      cases c2
      · skip
        rfl
      · skip
        rfl
-- spec vev20_1 es a b es2 a2 b2 ;; (AV.bool (vev20_0 es a b es2 a2 b2), [])
noncomputable def sp20 : List AV → List Blk → Option (Bool × AV × List Blk)
  | [.agg [.sl .imm [.str] es, .int .i64 a, .int .i64 b], .agg [.sl .imm [.str] es2, .int .i64 a2, .int .i64 b2]], [] => spW (vev20_1 es a b es2 a2 b2) (fin Try.prog (tab.frz 20) ([] : List Blk).length Try.f20.resultTypes.toList (some ((AV.bool (vev20_0 es a b es2 a2 b2), []))))
  | _, _ => none
noncomputable def k20 : Gam := fun f T C => match Nat.beq f 20 with
  | true => (sp20 T C).or (k19 f T C)
  | false => k19 f T C
theorem k20_ok : GamOK Try.prog k20 := by
  intro f T C r outs h
  unfold k20 at h
  cases hf : Nat.beq f 20 with
  | false => rw [hf] at h; exact k19_ok f T C r outs h
  | true =>
    have hf' := Nat.eq_of_beq_eq_true hf
    subst hf'
    rw [hf] at h
    dsimp only at h
    cases hs : sp20 T C with
    | none => rw [hs] at h; exact k19_ok _ T C r outs h
    | some x =>
      rw [hs] at h
      have hx : x = (true, r, outs) := by simpa using h
      subst hx
      unfold sp20 at hs
      split at hs
      · rename_i es a b es2 a2 b2
        obtain ⟨hb, hs⟩ := spW_inv hs
        have he := ev20 es a b es2 a2 b2
        rw [hb] at he
        obtain ⟨h1, h2⟩ := fn_ok mixed plain (gk_ok k19_ok 30) Try.func20 (fun c _ => LoopsOK.none (fun _ _ => rfl) c) he
        exact ⟨h1, h2.fin hs⟩
      · cases hs
noncomputable def vev13_0 (es : List (List AV)) (a : Int) (b : Int) (es2 : List (List AV)) (a2 : Int) (b2 : Int) : Bool := bif bif a != a2 then true else bif b != b2 then true else (↑es.length : Int) != (↑es2.length : Int) then false else bif missS (List.drop (nat_lit 0) es) (List.drop (nat_lit 0) es2) then false else true
noncomputable def vev13_1 (es : List (List AV)) (a : Int) (b : Int) (es2 : List (List AV)) (a2 : Int) (b2 : Int) : Bool := bif bif a != a2 then true else bif b != b2 then true else (↑es.length : Int) != (↑es2.length : Int) then true else bif (sp13L (es, a, b, es2, a2, b2, nat_lit 0)).fst then true else false
theorem ev13 (es : List (List AV)) (a : Int) (b : Int) (es2 : List (List AV)) (a2 : Int) (b2 : Int) : evFun (cfg Try.prog tab 100000 (gk k20 30) lsp13 13 ([] : List Blk).length Try.f13.ntmps) Try.f13 [.agg [.sl .imm [.str] es, .int .i64 a, .int .i64 b], .agg [.sl .imm [.str] es2, .int .i64 a2, .int .i64 b2]] [] = bif vev13_1 es a b es2 a2 b2 then some (AV.bool (vev13_0 es a b es2 a2 b2), []) else none := by
  have h : evFun (cfg Try.prog tab 100000 (gk k20 30) lsp13 13 ([] : List Blk).length Try.f13.ntmps) Try.f13 [.agg [.sl .imm [.str] es, .int .i64 a, .int .i64 b], .agg [.sl .imm [.str] es2, .int .i64 a2, .int .i64 b2]] [] = bif bif a != a2 then true else bif bif false then true else b != b2 then true else true then bif bif a != a2 then true else bif bif false then true else b != b2 then true else bif false then true else (↑es.length : Int) != (↑es2.length : Int) then some (AV.bool false, []) else bif (sp13L (es, a, b, es2, a2, b2, nat_lit 0)).fst then bif missS (List.drop (nat_lit 0) es) (List.drop (nat_lit 0) es2) then some (AV.bool false, []) else some (AV.bool true, []) else none else none := by kernel_rfl
  rw [h]
  clear h
  unfold vev13_0 vev13_1
  generalize ((sp13L (es, a, b, es2, a2, b2, nat_lit 0)).fst) = c0
  generalize ((↑es.length : Int) != (↑es2.length : Int)) = c1
  generalize (missS (List.drop (nat_lit 0) es) (List.drop (nat_lit 0) es2)) = c2
  generalize (a != a2) = c3
  generalize (b != b2) = c4
  cases c3
  · skip
    cases c4
    · skip
      cases c1
      · skip
        cases c0
        · skip
          rfl
        · skip
          cases c2
          · skip
            rfl
          · skip
            rfl
      · skip
        rfl
    · skip
      rfl
  · skip
    rfl
-- spec vev13_1 es a b es2 a2 b2 ;; (AV.bool (vev13_0 es a b es2 a2 b2), [])
noncomputable def sp13 : List AV → List Blk → Option (Bool × AV × List Blk)
  | [.agg [.sl .imm [.str] es, .int .i64 a, .int .i64 b], .agg [.sl .imm [.str] es2, .int .i64 a2, .int .i64 b2]], [] => spW (vev13_1 es a b es2 a2 b2) (fin Try.prog (tab.frz 13) ([] : List Blk).length Try.f13.resultTypes.toList (some ((AV.bool (vev13_0 es a b es2 a2 b2), []))))
  | _, _ => none
noncomputable def k13 : Gam := fun f T C => match Nat.beq f 13 with
  | true => (sp13 T C).or (k20 f T C)
  | false => k20 f T C
theorem k13_ok : GamOK Try.prog k13 := by
  intro f T C r outs h
  unfold k13 at h
  cases hf : Nat.beq f 13 with
  | false => rw [hf] at h; exact k20_ok f T C r outs h
  | true =>
    have hf' := Nat.eq_of_beq_eq_true hf
    subst hf'
    rw [hf] at h
    dsimp only at h
    cases hs : sp13 T C with
    | none => rw [hs] at h; exact k20_ok _ T C r outs h
    | some x =>
      rw [hs] at h
      have hx : x = (true, r, outs) := by simpa using h
      subst hx
      unfold sp13 at hs
      split at hs
      · rename_i es a b es2 a2 b2
        obtain ⟨hb, hs⟩ := spW_inv hs
        have he := ev13 es a b es2 a2 b2
        rw [hb] at he
        obtain ⟨h1, h2⟩ := fn_ok mixed plain (gk_ok k20_ok 30) Try.func13 (loops13 (gk k20 30)) he
        exact ⟨h1, h2.fin hs⟩
      · cases hs
noncomputable def vev7_0 (es : List (List AV)) (a : Int) (b : Int) : Bool := bif bigS (List.drop (nat_lit 0) es) then false else decide ((↑es.length : Int) ≤ (20 : Int))
noncomputable def vev7_1 (es : List (List AV)) (a : Int) (b : Int) : Bool := bif (sp7L (es, a, b, nat_lit 0)).fst then true else false
theorem ev7 (es : List (List AV)) (a : Int) (b : Int) : evFun (cfg Try.prog tab 100000 (gk k13 30) lsp7 7 ([] : List Blk).length Try.f7.ntmps) Try.f7 [.agg [.sl .imm [.str] es, .int .i64 a, .int .i64 b]] [] = bif vev7_1 es a b then some (AV.bool (vev7_0 es a b), []) else none := by
  have h : evFun (cfg Try.prog tab 100000 (gk k13 30) lsp7 7 ([] : List Blk).length Try.f7.ntmps) Try.f7 [.agg [.sl .imm [.str] es, .int .i64 a, .int .i64 b]] [] = bif (sp7L (es, a, b, nat_lit 0)).fst then bif bigS (List.drop (nat_lit 0) es) then some (AV.bool false, []) else some (AV.bool (decide ((↑es.length : Int) ≤ (20 : Int))), []) else none := by kernel_rfl
  rw [h]
  clear h
  unfold vev7_0 vev7_1
  generalize ((sp7L (es, a, b, nat_lit 0)).fst) = c0
  generalize (bigS (List.drop (nat_lit 0) es)) = c1
  cases c0
  · skip
    rfl
  · skip
    cases c1
    · skip
      rfl
    · skip
      rfl
-- spec vev7_1 es a b ;; (AV.bool (vev7_0 es a b), [])
noncomputable def sp7 : List AV → List Blk → Option (Bool × AV × List Blk)
  | [.agg [.sl .imm [.str] es, .int .i64 a, .int .i64 b]], [] => spW (vev7_1 es a b) (fin Try.prog (tab.frz 7) ([] : List Blk).length Try.f7.resultTypes.toList (some ((AV.bool (vev7_0 es a b), []))))
  | _, _ => none
noncomputable def k7 : Gam := fun f T C => match Nat.beq f 7 with
  | true => (sp7 T C).or (k13 f T C)
  | false => k13 f T C
theorem k7_ok : GamOK Try.prog k7 := by
  intro f T C r outs h
  unfold k7 at h
  cases hf : Nat.beq f 7 with
  | false => rw [hf] at h; exact k13_ok f T C r outs h
  | true =>
    have hf' := Nat.eq_of_beq_eq_true hf
    subst hf'
    rw [hf] at h
    dsimp only at h
    cases hs : sp7 T C with
    | none => rw [hs] at h; exact k13_ok _ T C r outs h
    | some x =>
      rw [hs] at h
      have hx : x = (true, r, outs) := by simpa using h
      subst hx
      unfold sp7 at hs
      split at hs
      · rename_i es a b
        obtain ⟨hb, hs⟩ := spW_inv hs
        have he := ev7 es a b
        rw [hb] at he
        obtain ⟨h1, h2⟩ := fn_ok mixed plain (gk_ok k13_ok 30) Try.func7 (loops7 (gk k13 30)) he
        exact ⟨h1, h2.fin hs⟩
      · cases hs
theorem ev8 : evFun (cfg Try.prog tab 100000 (gk k7 30) noLsp 8 ([] : List Blk).length Try.f8.ntmps) Try.f8 [] [] = some (AV.bool true, []) := by kernel_rfl
-- spec true ;; (AV.bool true, [])
noncomputable def sp8 : List AV → List Blk → Option (Bool × AV × List Blk)
  | [], [] => spW (true) (fin Try.prog (tab.frz 8) ([] : List Blk).length Try.f8.resultTypes.toList (some ((AV.bool true, []))))
  | _, _ => none
noncomputable def k8 : Gam := fun f T C => match Nat.beq f 8 with
  | true => (sp8 T C).or (k7 f T C)
  | false => k7 f T C
theorem k8_ok : GamOK Try.prog k8 := by
  intro f T C r outs h
  unfold k8 at h
  cases hf : Nat.beq f 8 with
  | false => rw [hf] at h; exact k7_ok f T C r outs h
  | true =>
    have hf' := Nat.eq_of_beq_eq_true hf
    subst hf'
    rw [hf] at h
    dsimp only at h
    cases hs : sp8 T C with
    | none => rw [hs] at h; exact k7_ok _ T C r outs h
    | some x =>
      rw [hs] at h
      have hx : x = (true, r, outs) := by simpa using h
      subst hx
      unfold sp8 at hs
      split at hs
      · obtain ⟨hb, hs⟩ := spW_inv hs
        have he := ev8 
        obtain ⟨h1, h2⟩ := fn_ok mixed plain (gk_ok k7_ok 30) Try.func8 (fun c _ => LoopsOK.none (fun _ _ => rfl) c) he
        exact ⟨h1, h2.fin hs⟩
      · cases hs
end Go.Proofs.Gv
