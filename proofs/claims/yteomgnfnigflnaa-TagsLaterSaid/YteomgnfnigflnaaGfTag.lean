import Derived.Test.YteomgnfnigflnaaGt
import Derived.KernelRfl
import Derived.Test.YteomgnfnigflnaaGsTag
import Derived.Test.YteomgnfnigflnaaGeTag
namespace Go.Proofs.Gv
open Go.Proofs
set_option linter.unusedVariables false
noncomputable def vev24_0 (tk : Tk) (es : List (List AV)) : Int := firstF es (nat_lit 0) (List.drop (nat_lit 0) es) (-1 : Int)
noncomputable def vev24_1 (tk : Tk) (es : List (List AV)) : Bool := bif (sp24L (tk, es, (-1 : Int), (↑es.length : Int), nat_lit 0)).fst then true else false
theorem ev24 (tk : Tk) (es : List (List AV)) : evFun (cfg Try.prog tab 100000 (gk k31c 30) lsp24 24 ([] : List Blk).length Try.f24.ntmps) Try.f24 [.sl tk [.int .i64, .int .i64, .int .i64, .int .i64] es] [] = bif vev24_1 tk es then some (AV.int IntKind.i64 (vev24_0 tk es), []) else none := by
  have h : evFun (cfg Try.prog tab 100000 (gk k31c 30) lsp24 24 ([] : List Blk).length Try.f24.ntmps) Try.f24 [.sl tk [.int .i64, .int .i64, .int .i64, .int .i64] es] [] = bif (sp24L (tk, es, (-1 : Int), (↑es.length : Int), nat_lit 0)).fst then some (AV.int IntKind.i64 (firstF es (nat_lit 0) (List.drop (nat_lit 0) es) (-1 : Int)), []) else none := by kernel_rfl
  rw [h]
  clear h
  unfold vev24_0 vev24_1
  generalize ((sp24L (tk, es, (-1 : Int), (↑es.length : Int), nat_lit 0)).fst) = c0
  cases c0
  · skip
    rfl
  · skip
    rfl
-- spec vev24_1 tk es ;; (AV.int IntKind.i64 (vev24_0 tk es), [])
noncomputable def sp24 : List AV → List Blk → Option (Bool × AV × List Blk)
  | [.sl tk [.int .i64, .int .i64, .int .i64, .int .i64] es], [] => spW (vev24_1 tk es) (fin Try.prog (tab.frz 24) ([] : List Blk).length Try.f24.resultTypes.toList (some ((AV.int IntKind.i64 (vev24_0 tk es), []))))
  | _, _ => none
noncomputable def k24 : Gam := fun f T C => match Nat.beq f 24 with
  | true => (sp24 T C).or (k31c f T C)
  | false => k31c f T C
theorem k24_ok : GamOK Try.prog k24 := by
  intro f T C r outs h
  unfold k24 at h
  cases hf : Nat.beq f 24 with
  | false => rw [hf] at h; exact k31c_ok f T C r outs h
  | true =>
    have hf' := Nat.eq_of_beq_eq_true hf
    subst hf'
    rw [hf] at h
    dsimp only at h
    cases hs : sp24 T C with
    | none => rw [hs] at h; exact k31c_ok _ T C r outs h
    | some x =>
      rw [hs] at h
      have hx : x = (true, r, outs) := by simpa using h
      subst hx
      unfold sp24 at hs
      split at hs
      · rename_i tk es
        obtain ⟨hb, hs⟩ := spW_inv hs
        have he := ev24 tk es
        rw [hb, cond_true] at he
        obtain ⟨h1, h2⟩ := fn_ok mixed plain (gk_ok k31c_ok 30) Try.func24 (loops24 (gk k31c 30)) he
        exact ⟨h1, h2.fin hs⟩
      · cases hs
noncomputable def vev25_0 (tk : Tk) (es : List (List AV)) : Int := firstF es (nat_lit 0) (List.drop (nat_lit 0) es) (-1 : Int)
noncomputable def vev25_1 (tk : Tk) (es : List (List AV)) : Bool := bif (sp25L (tk, es, (-1 : Int), nat_lit 0)).fst then true else false
theorem ev25 (tk : Tk) (es : List (List AV)) : evFun (cfg Try.prog tab 100000 (gk k24 30) lsp25 25 ([] : List Blk).length Try.f25.ntmps) Try.f25 [.sl tk [.int .i64, .int .i64, .int .i64, .int .i64] es] [] = bif vev25_1 tk es then some (AV.int IntKind.i64 (vev25_0 tk es), []) else none := by
  have h : evFun (cfg Try.prog tab 100000 (gk k24 30) lsp25 25 ([] : List Blk).length Try.f25.ntmps) Try.f25 [.sl tk [.int .i64, .int .i64, .int .i64, .int .i64] es] [] = bif (sp25L (tk, es, (-1 : Int), nat_lit 0)).fst then some (AV.int IntKind.i64 (firstF es (nat_lit 0) (List.drop (nat_lit 0) es) (-1 : Int)), []) else none := by kernel_rfl
  rw [h]
  clear h
  unfold vev25_0 vev25_1
  generalize ((sp25L (tk, es, (-1 : Int), nat_lit 0)).fst) = c0
  cases c0
  · skip
    rfl
  · skip
    rfl
-- spec vev25_1 tk es ;; (AV.int IntKind.i64 (vev25_0 tk es), [])
noncomputable def sp25 : List AV → List Blk → Option (Bool × AV × List Blk)
  | [.sl tk [.int .i64, .int .i64, .int .i64, .int .i64] es], [] => spW (vev25_1 tk es) (fin Try.prog (tab.frz 25) ([] : List Blk).length Try.f25.resultTypes.toList (some ((AV.int IntKind.i64 (vev25_0 tk es), []))))
  | _, _ => none
noncomputable def k25 : Gam := fun f T C => match Nat.beq f 25 with
  | true => (sp25 T C).or (k24 f T C)
  | false => k24 f T C
theorem k25_ok : GamOK Try.prog k25 := by
  intro f T C r outs h
  unfold k25 at h
  cases hf : Nat.beq f 25 with
  | false => rw [hf] at h; exact k24_ok f T C r outs h
  | true =>
    have hf' := Nat.eq_of_beq_eq_true hf
    subst hf'
    rw [hf] at h
    dsimp only at h
    cases hs : sp25 T C with
    | none => rw [hs] at h; exact k24_ok _ T C r outs h
    | some x =>
      rw [hs] at h
      have hx : x = (true, r, outs) := by simpa using h
      subst hx
      unfold sp25 at hs
      split at hs
      · rename_i tk es
        obtain ⟨hb, hs⟩ := spW_inv hs
        have he := ev25 tk es
        rw [hb, cond_true] at he
        obtain ⟨h1, h2⟩ := fn_ok mixed plain (gk_ok k24_ok 30) Try.func25 (loops25 (gk k24 30)) he
        exact ⟨h1, h2.fin hs⟩
      · cases hs
noncomputable def vev19_0 (es : List (List AV)) : List (List AV) := [] ++ List.map fitT (List.drop (nat_lit 0) es)
noncomputable def vev19_1 (es : List (List AV)) : Bool := bif (sp19L (es, [], nat_lit 0)).fst then true else false
theorem ev19 (es : List (List AV)) : evFin (cfg Try.prog tab 100000 (gk k25 30) lsp19 19 ([] : List Blk).length Try.f19.ntmps) ([] : List Blk).length Try.f19.resultTypes.toList Try.f19 [.sl .imm [.int .i64, .int .i64, .int .i64, .int .i64] es] [] = bif vev19_1 es then some (true, AV.sl Tk.imm [Kd.int IntKind.i64, Kd.int IntKind.i64, Kd.int IntKind.i64, Kd.int IntKind.i64] (vev19_0 es), []) else none := by
  have h : evFin (cfg Try.prog tab 100000 (gk k25 30) lsp19 19 ([] : List Blk).length Try.f19.ntmps) ([] : List Blk).length Try.f19.resultTypes.toList Try.f19 [.sl .imm [.int .i64, .int .i64, .int .i64, .int .i64] es] [] = bif (sp19L (es, [], nat_lit 0)).fst then some (true, AV.sl Tk.imm [Kd.int IntKind.i64, Kd.int IntKind.i64, Kd.int IntKind.i64, Kd.int IntKind.i64] ([] ++ List.map fitT (List.drop (nat_lit 0) es)), []) else none := by kernel_rfl
  rw [h]
  clear h
  unfold vev19_0 vev19_1
  generalize ((sp19L (es, [], nat_lit 0)).fst) = c0
  cases c0
  · skip
    rfl
  · skip
    rfl
-- spec vev19_1 es ;; (true, AV.sl Tk.imm [Kd.int IntKind.i64, Kd.int IntKind.i64, Kd.int IntKind.i64, Kd.int IntKind.i64] (vev19_0 es), [])
noncomputable def sp19 : List AV → List Blk → Option (Bool × AV × List Blk)
  | [.sl .imm [.int .i64, .int .i64, .int .i64, .int .i64] es], [] => spW (vev19_1 es) (some ((true, AV.sl Tk.imm [Kd.int IntKind.i64, Kd.int IntKind.i64, Kd.int IntKind.i64, Kd.int IntKind.i64] (vev19_0 es), [])))
  | _, _ => none
noncomputable def k19 : Gam := fun f T C => match Nat.beq f 19 with
  | true => (sp19 T C).or (k25 f T C)
  | false => k25 f T C
theorem k19_ok : GamOK Try.prog k19 := by
  intro f T C r outs h
  unfold k19 at h
  cases hf : Nat.beq f 19 with
  | false => rw [hf] at h; exact k25_ok f T C r outs h
  | true =>
    have hf' := Nat.eq_of_beq_eq_true hf
    subst hf'
    rw [hf] at h
    dsimp only at h
    cases hs : sp19 T C with
    | none => rw [hs] at h; exact k25_ok _ T C r outs h
    | some x =>
      rw [hs] at h
      have hx : x = (true, r, outs) := by simpa using h
      subst hx
      unfold sp19 at hs
      split at hs
      · rename_i es
        obtain ⟨hb, rfl, rfl⟩ := spT_inv hs
        have he := ev19 es
        rw [hb, cond_true] at he
        obtain ⟨r0, o0, h0, he⟩ := evFin_inv he
        obtain ⟨h1, h2⟩ := fn_ok mixed plain (gk_ok k25_ok 30) Try.func19 (loops19 (gk k25 30)) h0
        exact ⟨h1, h2.fin he⟩
      · cases hs
noncomputable def vev22_0 (es : List (List AV)) : List (List AV) := [] ++ List.map fitT (List.drop (nat_lit 0) es)
noncomputable def vev22_1 (es : List (List AV)) : Bool := bif (sp22L (es, [], nat_lit 0)).fst then true else false
theorem ev22 (es : List (List AV)) : evFin (cfg Try.prog tab 100000 (gk k19 30) lsp22 22 ([] : List Blk).length Try.f22.ntmps) ([] : List Blk).length Try.f22.resultTypes.toList Try.f22 [.sl .imm [.int .i64, .int .i64, .int .i64, .int .i64] es] [] = bif vev22_1 es then some (true, AV.sl Tk.imm [Kd.int IntKind.i64, Kd.int IntKind.i64, Kd.int IntKind.i64, Kd.int IntKind.i64] (vev22_0 es), []) else none := by
  have h : evFin (cfg Try.prog tab 100000 (gk k19 30) lsp22 22 ([] : List Blk).length Try.f22.ntmps) ([] : List Blk).length Try.f22.resultTypes.toList Try.f22 [.sl .imm [.int .i64, .int .i64, .int .i64, .int .i64] es] [] = bif (sp22L (es, [], nat_lit 0)).fst then some (true, AV.sl Tk.imm [Kd.int IntKind.i64, Kd.int IntKind.i64, Kd.int IntKind.i64, Kd.int IntKind.i64] ([] ++ List.map fitT (List.drop (nat_lit 0) es)), []) else none := by kernel_rfl
  rw [h]
  clear h
  unfold vev22_0 vev22_1
  generalize ((sp22L (es, [], nat_lit 0)).fst) = c0
  cases c0
  · skip
    rfl
  · skip
    rfl
-- spec vev22_1 es ;; (true, AV.sl Tk.imm [Kd.int IntKind.i64, Kd.int IntKind.i64, Kd.int IntKind.i64, Kd.int IntKind.i64] (vev22_0 es), [])
noncomputable def sp22 : List AV → List Blk → Option (Bool × AV × List Blk)
  | [.sl .imm [.int .i64, .int .i64, .int .i64, .int .i64] es], [] => spW (vev22_1 es) (some ((true, AV.sl Tk.imm [Kd.int IntKind.i64, Kd.int IntKind.i64, Kd.int IntKind.i64, Kd.int IntKind.i64] (vev22_0 es), [])))
  | _, _ => none
noncomputable def k22 : Gam := fun f T C => match Nat.beq f 22 with
  | true => (sp22 T C).or (k19 f T C)
  | false => k19 f T C
theorem k22_ok : GamOK Try.prog k22 := by
  intro f T C r outs h
  unfold k22 at h
  cases hf : Nat.beq f 22 with
  | false => rw [hf] at h; exact k19_ok f T C r outs h
  | true =>
    have hf' := Nat.eq_of_beq_eq_true hf
    subst hf'
    rw [hf] at h
    dsimp only at h
    cases hs : sp22 T C with
    | none => rw [hs] at h; exact k19_ok _ T C r outs h
    | some x =>
      rw [hs] at h
      have hx : x = (true, r, outs) := by simpa using h
      subst hx
      unfold sp22 at hs
      split at hs
      · rename_i es
        obtain ⟨hb, rfl, rfl⟩ := spT_inv hs
        have he := ev22 es
        rw [hb, cond_true] at he
        obtain ⟨r0, o0, h0, he⟩ := evFin_inv he
        obtain ⟨h1, h2⟩ := fn_ok mixed plain (gk_ok k19_ok 30) Try.func22 (loops22 (gk k19 30)) h0
        exact ⟨h1, h2.fin he⟩
      · cases hs
noncomputable def vev21_0 (es : List (List AV)) (fs : List (List AV)) : Bool := bif (↑es.length : Int) != (↑fs.length : Int) then false else bif missT (List.drop (nat_lit 0) es) (List.drop (nat_lit 0) fs) then false else true
noncomputable def vev21_1 (es : List (List AV)) (fs : List (List AV)) : Bool := bif (↑es.length : Int) != (↑fs.length : Int) then true else bif (sp21L (es, fs, nat_lit 0)).fst then true else false
theorem ev21 (es : List (List AV)) (fs : List (List AV)) : evFun (cfg Try.prog tab 100000 (gk k22 30) lsp21 21 ([] : List Blk).length Try.f21.ntmps) Try.f21 [.sl .imm [.int .i64, .int .i64, .int .i64, .int .i64] es, .sl .imm [.int .i64, .int .i64, .int .i64, .int .i64] fs] [] = bif vev21_1 es fs then some (AV.bool (vev21_0 es fs), []) else none := by
  have h : evFun (cfg Try.prog tab 100000 (gk k22 30) lsp21 21 ([] : List Blk).length Try.f21.ntmps) Try.f21 [.sl .imm [.int .i64, .int .i64, .int .i64, .int .i64] es, .sl .imm [.int .i64, .int .i64, .int .i64, .int .i64] fs] [] = bif (↑es.length : Int) != (↑fs.length : Int) then some (AV.bool false, []) else bif (sp21L (es, fs, nat_lit 0)).fst then bif missT (List.drop (nat_lit 0) es) (List.drop (nat_lit 0) fs) then some (AV.bool false, []) else some (AV.bool true, []) else none := by kernel_rfl
  rw [h]
  clear h
  unfold vev21_0 vev21_1
  generalize ((sp21L (es, fs, nat_lit 0)).fst) = c0
  generalize ((↑es.length : Int) != (↑fs.length : Int)) = c1
  generalize (missT (List.drop (nat_lit 0) es) (List.drop (nat_lit 0) fs)) = c2
  cases c1
  · skip
    cases c0
    · skip
      rfl
    · skip
      cases c2
      · skip
        rfl
      · skip
        rfl
  · skip
    rfl
-- spec vev21_1 es fs ;; (AV.bool (vev21_0 es fs), [])
noncomputable def sp21 : List AV → List Blk → Option (Bool × AV × List Blk)
  | [.sl .imm [.int .i64, .int .i64, .int .i64, .int .i64] es, .sl .imm [.int .i64, .int .i64, .int .i64, .int .i64] fs], [] => spW (vev21_1 es fs) (fin Try.prog (tab.frz 21) ([] : List Blk).length Try.f21.resultTypes.toList (some ((AV.bool (vev21_0 es fs), []))))
  | _, _ => none
noncomputable def k21 : Gam := fun f T C => match Nat.beq f 21 with
  | true => (sp21 T C).or (k22 f T C)
  | false => k22 f T C
theorem k21_ok : GamOK Try.prog k21 := by
  intro f T C r outs h
  unfold k21 at h
  cases hf : Nat.beq f 21 with
  | false => rw [hf] at h; exact k22_ok f T C r outs h
  | true =>
    have hf' := Nat.eq_of_beq_eq_true hf
    subst hf'
    rw [hf] at h
    dsimp only at h
    cases hs : sp21 T C with
    | none => rw [hs] at h; exact k22_ok _ T C r outs h
    | some x =>
      rw [hs] at h
      have hx : x = (true, r, outs) := by simpa using h
      subst hx
      unfold sp21 at hs
      split at hs
      · rename_i es fs
        obtain ⟨hb, hs⟩ := spW_inv hs
        have he := ev21 es fs
        rw [hb, cond_true] at he
        obtain ⟨h1, h2⟩ := fn_ok mixed plain (gk_ok k22_ok 30) Try.func21 (loops21 (gk k22 30)) he
        exact ⟨h1, h2.fin hs⟩
      · cases hs
noncomputable def vev23_0 (es : List (List AV)) (fs : List (List AV)) : Bool := bif (↑es.length : Int) != (↑fs.length : Int) then false else bif missI (List.drop (nat_lit 0) es) (List.drop (nat_lit 0) fs) then false else true
noncomputable def vev23_1 (es : List (List AV)) (fs : List (List AV)) : Bool := bif (↑es.length : Int) != (↑fs.length : Int) then true else bif (sp23L (es, fs, nat_lit 0)).fst then true else false
theorem ev23 (es : List (List AV)) (fs : List (List AV)) : evFun (cfg Try.prog tab 100000 (gk k21 30) lsp23 23 ([] : List Blk).length Try.f23.ntmps) Try.f23 [.sl .imm [.int .i64] es, .sl .imm [.int .i64] fs] [] = bif vev23_1 es fs then some (AV.bool (vev23_0 es fs), []) else none := by
  have h : evFun (cfg Try.prog tab 100000 (gk k21 30) lsp23 23 ([] : List Blk).length Try.f23.ntmps) Try.f23 [.sl .imm [.int .i64] es, .sl .imm [.int .i64] fs] [] = bif (↑es.length : Int) != (↑fs.length : Int) then some (AV.bool false, []) else bif (sp23L (es, fs, nat_lit 0)).fst then bif missI (List.drop (nat_lit 0) es) (List.drop (nat_lit 0) fs) then some (AV.bool false, []) else some (AV.bool true, []) else none := by kernel_rfl
  rw [h]
  clear h
  unfold vev23_0 vev23_1
  generalize ((sp23L (es, fs, nat_lit 0)).fst) = c0
  generalize ((↑es.length : Int) != (↑fs.length : Int)) = c1
  generalize (missI (List.drop (nat_lit 0) es) (List.drop (nat_lit 0) fs)) = c2
  cases c1
  · skip
    cases c0
    · skip
      rfl
    · skip
      cases c2
      · skip
        rfl
      · skip
        rfl
  · skip
    rfl
-- spec vev23_1 es fs ;; (AV.bool (vev23_0 es fs), [])
noncomputable def sp23 : List AV → List Blk → Option (Bool × AV × List Blk)
  | [.sl .imm [.int .i64] es, .sl .imm [.int .i64] fs], [] => spW (vev23_1 es fs) (fin Try.prog (tab.frz 23) ([] : List Blk).length Try.f23.resultTypes.toList (some ((AV.bool (vev23_0 es fs), []))))
  | _, _ => none
noncomputable def k23 : Gam := fun f T C => match Nat.beq f 23 with
  | true => (sp23 T C).or (k21 f T C)
  | false => k21 f T C
theorem k23_ok : GamOK Try.prog k23 := by
  intro f T C r outs h
  unfold k23 at h
  cases hf : Nat.beq f 23 with
  | false => rw [hf] at h; exact k21_ok f T C r outs h
  | true =>
    have hf' := Nat.eq_of_beq_eq_true hf
    subst hf'
    rw [hf] at h
    dsimp only at h
    cases hs : sp23 T C with
    | none => rw [hs] at h; exact k21_ok _ T C r outs h
    | some x =>
      rw [hs] at h
      have hx : x = (true, r, outs) := by simpa using h
      subst hx
      unfold sp23 at hs
      split at hs
      · rename_i es fs
        obtain ⟨hb, hs⟩ := spW_inv hs
        have he := ev23 es fs
        rw [hb, cond_true] at he
        obtain ⟨h1, h2⟩ := fn_ok mixed plain (gk_ok k21_ok 30) Try.func23 (loops23 (gk k21 30)) he
        exact ⟨h1, h2.fin hs⟩
      · cases hs
noncomputable def vev26_0 (w1 : Int) (s1 : Int) (f1 : Int) (k1 : Int) (w2 : Int) (s2 : Int) (f2 : Int) (k2 : Int) (a : Int) (b : Int) (q : Int) : Bool := bif bif vev15_0 w1 s1 f1 k1 != (0 : Int) then true else bif vev15_0 w2 s2 f2 k2 != (0 : Int) then true else !vev28_0 q (1099511627776 : Int) then false else bif bif !vev28_0 a k1 then true else !vev28_0 b k2 then false else decide ((if if true = true then IntKind.i64.wrap (IntKind.i64.wrap (IntKind.i64.wrap (k1 - a) * w2) - IntKind.i64.wrap (IntKind.i64.wrap (k2 - b) * w1)) < IntKind.i64.wrap ((0 : Int) - IntKind.i64.wrap (IntKind.i64.wrap (IntKind.i64.wrap (k1 - a) * w2) - IntKind.i64.wrap (IntKind.i64.wrap (k2 - b) * w1))) else IntKind.i64.wrap ((0 : Int) - IntKind.i64.wrap (IntKind.i64.wrap (IntKind.i64.wrap (k1 - a) * w2) - IntKind.i64.wrap (IntKind.i64.wrap (k2 - b) * w1))) < IntKind.i64.wrap (IntKind.i64.wrap (IntKind.i64.wrap (k1 - a) * w2) - IntKind.i64.wrap (IntKind.i64.wrap (k2 - b) * w1)) then IntKind.i64.wrap ((0 : Int) - IntKind.i64.wrap (IntKind.i64.wrap (IntKind.i64.wrap (k1 - a) * w2) - IntKind.i64.wrap (IntKind.i64.wrap (k2 - b) * w1))) else IntKind.i64.wrap (IntKind.i64.wrap (IntKind.i64.wrap (k1 - a) * w2) - IntKind.i64.wrap (IntKind.i64.wrap (k2 - b) * w1))) ≤ IntKind.i64.wrap (q * IntKind.i64.wrap (w1 + w2)))
theorem ev26 (w1 : Int) (s1 : Int) (f1 : Int) (k1 : Int) (w2 : Int) (s2 : Int) (f2 : Int) (k2 : Int) (a : Int) (b : Int) (q : Int) : evFun (cfg Try.prog tab 100000 (gk k23 30) noLsp 26 ([] : List Blk).length Try.f26.ntmps) Try.f26 [.agg [.int .i64 w1, .int .i64 s1, .int .i64 f1, .int .i64 k1], .agg [.int .i64 w2, .int .i64 s2, .int .i64 f2, .int .i64 k2], .agg [.int .i64 a, .int .i64 b], .int .i64 q] [] = bif true then some (AV.bool (vev26_0 w1 s1 f1 k1 w2 s2 f2 k2 a b q), []) else none := by
  have h : evFun (cfg Try.prog tab 100000 (gk k23 30) noLsp 26 ([] : List Blk).length Try.f26.ntmps) Try.f26 [.agg [.int .i64 w1, .int .i64 s1, .int .i64 f1, .int .i64 k1], .agg [.int .i64 w2, .int .i64 s2, .int .i64 f2, .int .i64 k2], .agg [.int .i64 a, .int .i64 b], .int .i64 q] [] = bif bif vev15_0 w1 s1 f1 k1 != (0 : Int) then true else bif bif false then true else vev15_0 w2 s2 f2 k2 != (0 : Int) then true else true then bif bif vev15_0 w1 s1 f1 k1 != (0 : Int) then true else bif bif false then true else vev15_0 w2 s2 f2 k2 != (0 : Int) then true else bif false then true else !vev28_0 q (1099511627776 : Int) then some (AV.bool false, []) else bif bif !vev28_0 a k1 then true else true then bif bif !vev28_0 a k1 then true else bif false then true else !vev28_0 b k2 then some (AV.bool false, []) else some (AV.bool (decide ((if if true = true then IntKind.i64.wrap (IntKind.i64.wrap (IntKind.i64.wrap (k1 - a) * w2) - IntKind.i64.wrap (IntKind.i64.wrap (k2 - b) * w1)) < IntKind.i64.wrap ((0 : Int) - IntKind.i64.wrap (IntKind.i64.wrap (IntKind.i64.wrap (k1 - a) * w2) - IntKind.i64.wrap (IntKind.i64.wrap (k2 - b) * w1))) else IntKind.i64.wrap ((0 : Int) - IntKind.i64.wrap (IntKind.i64.wrap (IntKind.i64.wrap (k1 - a) * w2) - IntKind.i64.wrap (IntKind.i64.wrap (k2 - b) * w1))) < IntKind.i64.wrap (IntKind.i64.wrap (IntKind.i64.wrap (k1 - a) * w2) - IntKind.i64.wrap (IntKind.i64.wrap (k2 - b) * w1)) then IntKind.i64.wrap ((0 : Int) - IntKind.i64.wrap (IntKind.i64.wrap (IntKind.i64.wrap (k1 - a) * w2) - IntKind.i64.wrap (IntKind.i64.wrap (k2 - b) * w1))) else IntKind.i64.wrap (IntKind.i64.wrap (IntKind.i64.wrap (k1 - a) * w2) - IntKind.i64.wrap (IntKind.i64.wrap (k2 - b) * w1))) ≤ IntKind.i64.wrap (q * IntKind.i64.wrap (w1 + w2)))), []) else none else none := by kernel_rfl
  rw [h]
  clear h
  unfold vev26_0
  generalize (vev15_0 w2 s2 f2 k2 != (0 : Int)) = c0
  generalize (vev15_0 w1 s1 f1 k1 != (0 : Int)) = c1
  generalize (!vev28_0 q (1099511627776 : Int)) = c2
  generalize (!vev28_0 b k2) = c3
  generalize (!vev28_0 a k1) = c4
  cases c1
  · skip
    cases c0
    · skip
      cases c2
      · skip
        cases c4
        · skip
          cases c3
          · skip
            rfl
          · skip
            rfl
        · skip
          rfl
      · skip
        rfl
    · skip
      rfl
  · skip
    rfl
-- spec true ;; (AV.bool (vev26_0 w1 s1 f1 k1 w2 s2 f2 k2 a b q), [])
noncomputable def sp26 : List AV → List Blk → Option (Bool × AV × List Blk)
  | [.agg [.int .i64 w1, .int .i64 s1, .int .i64 f1, .int .i64 k1], .agg [.int .i64 w2, .int .i64 s2, .int .i64 f2, .int .i64 k2], .agg [.int .i64 a, .int .i64 b], .int .i64 q], [] => spW (true) (fin Try.prog (tab.frz 26) ([] : List Blk).length Try.f26.resultTypes.toList (some ((AV.bool (vev26_0 w1 s1 f1 k1 w2 s2 f2 k2 a b q), []))))
  | _, _ => none
noncomputable def k26 : Gam := fun f T C => match Nat.beq f 26 with
  | true => (sp26 T C).or (k23 f T C)
  | false => k23 f T C
theorem k26_ok : GamOK Try.prog k26 := by
  intro f T C r outs h
  unfold k26 at h
  cases hf : Nat.beq f 26 with
  | false => rw [hf] at h; exact k23_ok f T C r outs h
  | true =>
    have hf' := Nat.eq_of_beq_eq_true hf
    subst hf'
    rw [hf] at h
    dsimp only at h
    cases hs : sp26 T C with
    | none => rw [hs] at h; exact k23_ok _ T C r outs h
    | some x =>
      rw [hs] at h
      have hx : x = (true, r, outs) := by simpa using h
      subst hx
      unfold sp26 at hs
      split at hs
      · rename_i w1 s1 f1 k1 w2 s2 f2 k2 a b q
        obtain ⟨hb, hs⟩ := spW_inv hs
        have he := ev26 w1 s1 f1 k1 w2 s2 f2 k2 a b q
        obtain ⟨h1, h2⟩ := fn_ok mixed plain (gk_ok k23_ok 30) Try.func26 (fun c _ => LoopsOK.none (fun _ _ => rfl) c) he
        exact ⟨h1, h2.fin hs⟩
      · cases hs
noncomputable def vev27_0 (w1 : Int) (s1 : Int) (f1 : Int) (k1 : Int) (w2 : Int) (s2 : Int) (f2 : Int) (k2 : Int) (a : Int) (b : Int) (q : Int) : Bool := bif bif vev16_0 w1 s1 f1 k1 != (0 : Int) then true else bif vev16_0 w2 s2 f2 k2 != (0 : Int) then true else bif !vev30_0 a k1 then true else bif !vev30_0 b k2 then true else !vev30_0 q (1099511627776 : Int) then false else bif decide (IntKind.i64.wrap (IntKind.i64.wrap (IntKind.i64.wrap (k1 - a) * w2) - IntKind.i64.wrap (IntKind.i64.wrap (k2 - b) * w1)) ≤ IntKind.i64.wrap (q * IntKind.i64.wrap (w1 + w2))) then bif true then decide (IntKind.i64.wrap (IntKind.i64.wrap (IntKind.i64.wrap (k2 - b) * w1) - IntKind.i64.wrap (IntKind.i64.wrap (k1 - a) * w2)) ≤ IntKind.i64.wrap (q * IntKind.i64.wrap (w1 + w2))) else false else false
theorem ev27 (w1 : Int) (s1 : Int) (f1 : Int) (k1 : Int) (w2 : Int) (s2 : Int) (f2 : Int) (k2 : Int) (a : Int) (b : Int) (q : Int) : evFun (cfg Try.prog tab 100000 (gk k26 30) noLsp 27 ([] : List Blk).length Try.f27.ntmps) Try.f27 [.agg [.int .i64 w1, .int .i64 s1, .int .i64 f1, .int .i64 k1], .agg [.int .i64 w2, .int .i64 s2, .int .i64 f2, .int .i64 k2], .agg [.int .i64 a, .int .i64 b], .int .i64 q] [] = bif true then some (AV.bool (vev27_0 w1 s1 f1 k1 w2 s2 f2 k2 a b q), []) else none := by
  have h : evFun (cfg Try.prog tab 100000 (gk k26 30) noLsp 27 ([] : List Blk).length Try.f27.ntmps) Try.f27 [.agg [.int .i64 w1, .int .i64 s1, .int .i64 f1, .int .i64 k1], .agg [.int .i64 w2, .int .i64 s2, .int .i64 f2, .int .i64 k2], .agg [.int .i64 a, .int .i64 b], .int .i64 q] [] = bif bif vev16_0 w1 s1 f1 k1 != (0 : Int) then true else bif bif false then true else vev16_0 w2 s2 f2 k2 != (0 : Int) then true else bif bif false then true else !vev30_0 a k1 then true else bif bif false then true else !vev30_0 b k2 then true else true then bif bif vev16_0 w1 s1 f1 k1 != (0 : Int) then true else bif bif false then true else vev16_0 w2 s2 f2 k2 != (0 : Int) then true else bif bif false then true else !vev30_0 a k1 then true else bif bif false then true else !vev30_0 b k2 then true else bif false then true else !vev30_0 q (1099511627776 : Int) then some (AV.bool false, []) else bif bif decide (IntKind.i64.wrap (IntKind.i64.wrap (IntKind.i64.wrap (k1 - a) * w2) - IntKind.i64.wrap (IntKind.i64.wrap (k2 - b) * w1)) ≤ IntKind.i64.wrap (q * IntKind.i64.wrap (w1 + w2))) then true else true then some (AV.bool (bif decide (IntKind.i64.wrap (IntKind.i64.wrap (IntKind.i64.wrap (k1 - a) * w2) - IntKind.i64.wrap (IntKind.i64.wrap (k2 - b) * w1)) ≤ IntKind.i64.wrap (q * IntKind.i64.wrap (w1 + w2))) then bif true then decide (IntKind.i64.wrap (IntKind.i64.wrap (IntKind.i64.wrap (k2 - b) * w1) - IntKind.i64.wrap (IntKind.i64.wrap (k1 - a) * w2)) ≤ IntKind.i64.wrap (q * IntKind.i64.wrap (w1 + w2))) else false else false), []) else none else none := by kernel_rfl
  rw [h]
  clear h
  unfold vev27_0
  generalize (decide (IntKind.i64.wrap (IntKind.i64.wrap (IntKind.i64.wrap (k1 - a) * w2) - IntKind.i64.wrap (IntKind.i64.wrap (k2 - b) * w1)) ≤ IntKind.i64.wrap (q * IntKind.i64.wrap (w1 + w2)))) = c0
  generalize (vev16_0 w1 s1 f1 k1 != (0 : Int)) = c1
  generalize (vev16_0 w2 s2 f2 k2 != (0 : Int)) = c2
  generalize (!vev30_0 q (1099511627776 : Int)) = c3
  generalize (!vev30_0 a k1) = c4
  generalize (!vev30_0 b k2) = c5
  cases c1
  · skip
    cases c2
    · skip
      cases c4
      · skip
        cases c5
        · skip
          cases c3
          · skip
            cases c0
            · skip
              rfl
            · skip
              rfl
          · skip
            rfl
        · skip
          rfl
      · skip
        rfl
    · skip
      rfl
  · skip
    rfl
-- spec true ;; (AV.bool (vev27_0 w1 s1 f1 k1 w2 s2 f2 k2 a b q), [])
noncomputable def sp27 : List AV → List Blk → Option (Bool × AV × List Blk)
  | [.agg [.int .i64 w1, .int .i64 s1, .int .i64 f1, .int .i64 k1], .agg [.int .i64 w2, .int .i64 s2, .int .i64 f2, .int .i64 k2], .agg [.int .i64 a, .int .i64 b], .int .i64 q], [] => spW (true) (fin Try.prog (tab.frz 27) ([] : List Blk).length Try.f27.resultTypes.toList (some ((AV.bool (vev27_0 w1 s1 f1 k1 w2 s2 f2 k2 a b q), []))))
  | _, _ => none
noncomputable def k27 : Gam := fun f T C => match Nat.beq f 27 with
  | true => (sp27 T C).or (k26 f T C)
  | false => k26 f T C
theorem k27_ok : GamOK Try.prog k27 := by
  intro f T C r outs h
  unfold k27 at h
  cases hf : Nat.beq f 27 with
  | false => rw [hf] at h; exact k26_ok f T C r outs h
  | true =>
    have hf' := Nat.eq_of_beq_eq_true hf
    subst hf'
    rw [hf] at h
    dsimp only at h
    cases hs : sp27 T C with
    | none => rw [hs] at h; exact k26_ok _ T C r outs h
    | some x =>
      rw [hs] at h
      have hx : x = (true, r, outs) := by simpa using h
      subst hx
      unfold sp27 at hs
      split at hs
      · rename_i w1 s1 f1 k1 w2 s2 f2 k2 a b q
        obtain ⟨hb, hs⟩ := spW_inv hs
        have he := ev27 w1 s1 f1 k1 w2 s2 f2 k2 a b q
        obtain ⟨h1, h2⟩ := fn_ok mixed plain (gk_ok k26_ok 30) Try.func27 (fun c _ => LoopsOK.none (fun _ _ => rfl) c) he
        exact ⟨h1, h2.fin hs⟩
      · cases hs
end Go.Proofs.Gv
