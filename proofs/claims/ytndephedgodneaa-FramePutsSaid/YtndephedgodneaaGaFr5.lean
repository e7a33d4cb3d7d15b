import Derived.Test.YtndephedgodneaaGt
import Derived.KernelRfl
import Derived.Test.YtndephedgodneaaGwF
import Derived.Test.YtndephedgodneaaGaFr4
namespace Go.Proofs.Gv
open Go.Proofs
set_option linter.unusedVariables false
/-- ref.Has: its loop always ends. -/
theorem h55 : ∀ (k i : Nat), i + k = 8 → ∀ a b : Int, ∃ r, Ends (g55_2 ()) (n55_2 ()) (a, b, (i : Int)) r ∧ (xc55_2_0 r.1 r.2.1 r.2.2 || xc55_2_1 r.1 r.2.1 r.2.2) = true := by
  intro k
  induction k with
  | zero =>
    intro i hi a b
    refine ⟨(a, b, (i : Int)), Ends.stop ?_, ?_⟩
    · unfold g55_2 go55_2
      dsimp only
      rw [decide_eq_false (by omega)]
      rfl
    · unfold xc55_2_0 xc55_2_1
      dsimp only
      rw [decide_eq_false (by omega)]
      rfl
  | succ k ih =>
    intro i hi a b
    cases hg : g55_2 () (a, b, (i : Int)) with
    | false =>
      refine ⟨(a, b, (i : Int)), Ends.stop hg, ?_⟩
      unfold g55_2 go55_2 at hg
      unfold xc55_2_0 xc55_2_1
      dsimp only at hg ⊢
      rw [decide_eq_true (show (i : Int) < 8 by omega)] at hg ⊢
      rw [cond_true] at hg
      rw [cond_true, cond_true, Bool.or_false]
      cases hx : (bif b.tmod (2 : Int) == (1 : Int) then a.tmod (2 : Int) == (0 : Int) else false) with
      | false => rw [hx] at hg; cases hg
      | true => rfl
    | true =>
      obtain ⟨r, h1, h2⟩ := ih (i + 1) (by omega) (IntKind.u8.wrap (a.tdiv (2 : Int))) (IntKind.u8.wrap (b.tdiv (2 : Int)))
      refine ⟨r, Ends.step hg ?_, h2⟩
      have e : n55_2 () (a, b, (i : Int)) = (IntKind.u8.wrap (a.tdiv (2 : Int)), IntKind.u8.wrap (b.tdiv (2 : Int)), ((i + 1 : Nat) : Int)) := by
        unfold n55_2 nx55_2_0 nx55_2_1 nx55_2_2
        dsimp only
        rw [wrapN i 8 (by omega) (by omega)]
      rw [e]
      exact h1
theorem has_ends (g fl : Int) : vev55_1 g fl = true := by
  obtain ⟨r, h1, h2⟩ := h55 8 0 rfl g fl
  have f := h1.fin
  unfold vev55_1
  simp only [spI]
  have e : ((0 : Nat) : Int) = (0 : Int) := rfl
  rw [e] at f
  rw [f.1, f.2]
  unfold y55_2 z55_2
  simp only [List.any_cons, List.any_nil, Bool.or_false, Bool.true_and]
  rw [h2]
  rfl
noncomputable def sp55u : List AV → List Blk → Option (Bool × AV × List Blk)
  | [.int .u8 fs, .int .u8 flag], [] => some ((true, AV.bool (vev55_0 fs flag), []))
  | _, _ => none
noncomputable def k55u : Gam := fun f T C => match Nat.beq f 55 with
  | true => (sp55u T C).or (k16 f T C)
  | false => k16 f T C
theorem k55u_ok : GamOK Try.prog k55u := by
  intro f T C r outs h
  unfold k55u at h
  cases hf : Nat.beq f 55 with
  | false => rw [hf] at h; exact k16_ok f T C r outs h
  | true =>
    have hf' := Nat.eq_of_beq_eq_true hf
    subst hf'
    rw [hf] at h
    dsimp only at h
    cases hs : sp55u T C with
    | none => rw [hs] at h; exact k16_ok _ T C r outs h
    | some x =>
      rw [hs] at h
      have hx : x = (true, r, outs) := by simpa using h
      subst hx
      unfold sp55u at hs
      split at hs
      · rename_i fs flag
        injection hs with hs
        injection hs with hb hs
        injection hs with e1 e2
        subst e1 e2
        have he := ev55 fs flag
        rw [has_ends, cond_true] at he
        obtain ⟨r0, o0, h0, he⟩ := evFin_inv he
        obtain ⟨h1, h2⟩ := fn_ok mixed plain (gk_ok k43_ok 30) Try.func55 loops55 h0
        exact ⟨h1, h2.fin he⟩
      · cases hs
theorem ev62 (t g n : Int) (d : List UInt8) (pa de : Int) (so : Bool) (we co la inc : Int) (ps : List (List AV)) (fl : Int) : evFin (cfg Try.prog tab 100000 (gk k55u 30) noLsp 62 ([] : List Blk).length Try.f62.ntmps) ([] : List Blk).length Try.f62.resultTypes.toList Try.f62 [.agg [.int .u8 t, .int .u8 g, .int .i64 n, .str d, .int .i64 pa, .int .i64 de, .bool so, .int .u8 we, .int .u32 co, .int .i64 la, .int .i64 inc, .sl .imm [.int .u16, .int .u32] ps], .int .u8 fl] [] = some (true, AV.bool (vev55_0 g fl), []) := by kernel_rfl
-- spec true ;; (true, AV.bool (vev55_0 g fl), [])
noncomputable def sp62 : List AV → List Blk → Option (Bool × AV × List Blk)
  | [.agg [.int .u8 t, .int .u8 g, .int .i64 n, .str d, .int .i64 pa, .int .i64 de, .bool so, .int .u8 we, .int .u32 co, .int .i64 la, .int .i64 inc, .sl .imm [.int .u16, .int .u32] ps], .int .u8 fl], [] => spW (true) (some ((true, AV.bool (vev55_0 g fl), [])))
  | _, _ => none
noncomputable def k62 : Gam := fun f T C => match Nat.beq f 62 with
  | true => (sp62 T C).or (k55u f T C)
  | false => k55u f T C
theorem k62_ok : GamOK Try.prog k62 := by
  intro f T C r outs h
  unfold k62 at h
  cases hf : Nat.beq f 62 with
  | false => rw [hf] at h; exact k55u_ok f T C r outs h
  | true =>
    have hf' := Nat.eq_of_beq_eq_true hf
    subst hf'
    rw [hf] at h
    dsimp only at h
    cases hs : sp62 T C with
    | none => rw [hs] at h; exact k55u_ok _ T C r outs h
    | some x =>
      rw [hs] at h
      have hx : x = (true, r, outs) := by simpa using h
      subst hx
      unfold sp62 at hs
      split at hs
      · rename_i t g n d pa de so we co la inc ps fl
        obtain ⟨hb, rfl, rfl⟩ := spT_inv hs
        have he := ev62 t g n d pa de so we co la inc ps fl
        obtain ⟨r0, o0, h0, he⟩ := evFin_inv he
        obtain ⟨h1, h2⟩ := fn_ok mixed plain (gk_ok k55u_ok 30) Try.func62 (fun c _ => LoopsOK.none (fun _ _ => rfl) c) h0
        exact ⟨h1, h2.fin he⟩
      · cases hs
noncomputable def vev51_0 (n : Int) : Bool := bif decide (n ≥ (0 : Int)) then bif true then decide (n ≤ (2147483647 : Int)) else false else false
theorem ev51 (n : Int) : evFin (cfg Try.prog tab 100000 (gk k62 30) noLsp 51 ([] : List Blk).length Try.f51.ntmps) ([] : List Blk).length Try.f51.resultTypes.toList Try.f51 [.int .i64 n] [] = bif true then some (true, AV.bool (vev51_0 n), []) else none := by
  have h : evFin (cfg Try.prog tab 100000 (gk k62 30) noLsp 51 ([] : List Blk).length Try.f51.ntmps) ([] : List Blk).length Try.f51.resultTypes.toList Try.f51 [.int .i64 n] [] = bif bif decide (n ≥ (0 : Int)) then true else true then some (true, AV.bool (bif decide (n ≥ (0 : Int)) then bif true then decide (n ≤ (2147483647 : Int)) else false else false), []) else none := by kernel_rfl
  rw [h]
  clear h
  unfold vev51_0
  generalize (decide (n ≥ (0 : Int))) = c0
  cases c0
  · skip
    rfl
  · skip
    rfl
-- spec true ;; (true, AV.bool (vev51_0 n), [])
noncomputable def sp51 : List AV → List Blk → Option (Bool × AV × List Blk)
  | [.int .i64 n], [] => spW (true) (some ((true, AV.bool (vev51_0 n), [])))
  | _, _ => none
noncomputable def k51 : Gam := fun f T C => match Nat.beq f 51 with
  | true => (sp51 T C).or (k62 f T C)
  | false => k62 f T C
theorem k51_ok : GamOK Try.prog k51 := by
  intro f T C r outs h
  unfold k51 at h
  cases hf : Nat.beq f 51 with
  | false => rw [hf] at h; exact k62_ok f T C r outs h
  | true =>
    have hf' := Nat.eq_of_beq_eq_true hf
    subst hf'
    rw [hf] at h
    dsimp only at h
    cases hs : sp51 T C with
    | none => rw [hs] at h; exact k62_ok _ T C r outs h
    | some x =>
      rw [hs] at h
      have hx : x = (true, r, outs) := by simpa using h
      subst hx
      unfold sp51 at hs
      split at hs
      · rename_i n
        obtain ⟨hb, rfl, rfl⟩ := spT_inv hs
        have he := ev51 n
        obtain ⟨r0, o0, h0, he⟩ := evFin_inv he
        obtain ⟨h1, h2⟩ := fn_ok mixed plain (gk_ok k62_ok 30) Try.func51 (fun c _ => LoopsOK.none (fun _ _ => rfl) c) h0
        exact ⟨h1, h2.fin he⟩
      · cases hs
noncomputable def vev61_0 (t g n : Int) (d : List UInt8) (pa de : Int) (so : Bool) (we co la inc : Int) (ps : List (List AV)) : Bool := bif decide (t ≤ (1 : Int)) then bif true then vev55_0 g (8 : Int) else false else false
theorem ev61 (t g n : Int) (d : List UInt8) (pa de : Int) (so : Bool) (we co la inc : Int) (ps : List (List AV)) : evFin (cfg Try.prog tab 100000 (gk k51 30) noLsp 61 ([] : List Blk).length Try.f61.ntmps) ([] : List Blk).length Try.f61.resultTypes.toList Try.f61 [.agg [.int .u8 t, .int .u8 g, .int .i64 n, .str d, .int .i64 pa, .int .i64 de, .bool so, .int .u8 we, .int .u32 co, .int .i64 la, .int .i64 inc, .sl .imm [.int .u16, .int .u32] ps]] [] = bif true then some (true, AV.bool (vev61_0 t g n d pa de so we co la inc ps), []) else none := by
  have h : evFin (cfg Try.prog tab 100000 (gk k51 30) noLsp 61 ([] : List Blk).length Try.f61.ntmps) ([] : List Blk).length Try.f61.resultTypes.toList Try.f61 [.agg [.int .u8 t, .int .u8 g, .int .i64 n, .str d, .int .i64 pa, .int .i64 de, .bool so, .int .u8 we, .int .u32 co, .int .i64 la, .int .i64 inc, .sl .imm [.int .u16, .int .u32] ps]] [] = bif bif decide (t ≤ (1 : Int)) then true else true then some (true, AV.bool (bif decide (t ≤ (1 : Int)) then bif true then vev55_0 g (8 : Int) else false else false), []) else none := by kernel_rfl
  rw [h]
  clear h
  unfold vev61_0
  generalize (decide (t ≤ (1 : Int))) = c0
  cases c0
  · skip
    rfl
  · skip
    rfl
-- spec true ;; (true, AV.bool (vev61_0 t g n d pa de so we co la inc ps), [])
noncomputable def sp61 : List AV → List Blk → Option (Bool × AV × List Blk)
  | [.agg [.int .u8 t, .int .u8 g, .int .i64 n, .str d, .int .i64 pa, .int .i64 de, .bool so, .int .u8 we, .int .u32 co, .int .i64 la, .int .i64 inc, .sl .imm [.int .u16, .int .u32] ps]], [] => spW (true) (some ((true, AV.bool (vev61_0 t g n d pa de so we co la inc ps), [])))
  | _, _ => none
noncomputable def k61 : Gam := fun f T C => match Nat.beq f 61 with
  | true => (sp61 T C).or (k51 f T C)
  | false => k51 f T C
theorem k61_ok : GamOK Try.prog k61 := by
  intro f T C r outs h
  unfold k61 at h
  cases hf : Nat.beq f 61 with
  | false => rw [hf] at h; exact k51_ok f T C r outs h
  | true =>
    have hf' := Nat.eq_of_beq_eq_true hf
    subst hf'
    rw [hf] at h
    dsimp only at h
    cases hs : sp61 T C with
    | none => rw [hs] at h; exact k51_ok _ T C r outs h
    | some x =>
      rw [hs] at h
      have hx : x = (true, r, outs) := by simpa using h
      subst hx
      unfold sp61 at hs
      split at hs
      · rename_i t g n d pa de so we co la inc ps
        obtain ⟨hb, rfl, rfl⟩ := spT_inv hs
        have he := ev61 t g n d pa de so we co la inc ps
        obtain ⟨r0, o0, h0, he⟩ := evFin_inv he
        obtain ⟨h1, h2⟩ := fn_ok mixed plain (gk_ok k51_ok 30) Try.func61 (fun c _ => LoopsOK.none (fun _ _ => rfl) c) h0
        exact ⟨h1, h2.fin he⟩
      · cases hs
noncomputable def vev68_0 (t g n : Int) (d : List UInt8) (pa de : Int) (so : Bool) (we co la inc : Int) (ps : List (List AV)) : Bool := bif t == (2 : Int) then true else bif t == (1 : Int) then bif false then true else bif true then vev55_0 g (32 : Int) else false else bif false then true else false
theorem ev68 (t g n : Int) (d : List UInt8) (pa de : Int) (so : Bool) (we co la inc : Int) (ps : List (List AV)) : evFin (cfg Try.prog tab 100000 (gk k61 30) noLsp 68 ([] : List Blk).length Try.f68.ntmps) ([] : List Blk).length Try.f68.resultTypes.toList Try.f68 [.agg [.int .u8 t, .int .u8 g, .int .i64 n, .str d, .int .i64 pa, .int .i64 de, .bool so, .int .u8 we, .int .u32 co, .int .i64 la, .int .i64 inc, .sl .imm [.int .u16, .int .u32] ps]] [] = bif true then some (true, AV.bool (vev68_0 t g n d pa de so we co la inc ps), []) else none := by
  have h : evFin (cfg Try.prog tab 100000 (gk k61 30) noLsp 68 ([] : List Blk).length Try.f68.ntmps) ([] : List Blk).length Try.f68.resultTypes.toList Try.f68 [.agg [.int .u8 t, .int .u8 g, .int .i64 n, .str d, .int .i64 pa, .int .i64 de, .bool so, .int .u8 we, .int .u32 co, .int .i64 la, .int .i64 inc, .sl .imm [.int .u16, .int .u32] ps]] [] = bif bif t == (2 : Int) then true else bif t == (1 : Int) then true else true then some (true, AV.bool (bif t == (2 : Int) then true else bif t == (1 : Int) then bif false then true else bif true then vev55_0 g (32 : Int) else false else bif false then true else false), []) else none := by kernel_rfl
  rw [h]
  clear h
  unfold vev68_0
  generalize (t == (1 : Int)) = c0
  generalize (t == (2 : Int)) = c1
  cases c1; cases c0; rfl; rfl; rfl
-- spec true ;; (true, AV.bool (vev68_0 t g n d pa de so we co la inc ps), [])
noncomputable def sp68 : List AV → List Blk → Option (Bool × AV × List Blk)
  | [.agg [.int .u8 t, .int .u8 g, .int .i64 n, .str d, .int .i64 pa, .int .i64 de, .bool so, .int .u8 we, .int .u32 co, .int .i64 la, .int .i64 inc, .sl .imm [.int .u16, .int .u32] ps]], [] => spW (true) (some ((true, AV.bool (vev68_0 t g n d pa de so we co la inc ps), [])))
  | _, _ => none
noncomputable def k68 : Gam := fun f T C => match Nat.beq f 68 with
  | true => (sp68 T C).or (k61 f T C)
  | false => k61 f T C
theorem k68_ok : GamOK Try.prog k68 := by
  intro f T C r outs h
  unfold k68 at h
  cases hf : Nat.beq f 68 with
  | false => rw [hf] at h; exact k61_ok f T C r outs h
  | true =>
    have hf' := Nat.eq_of_beq_eq_true hf
    subst hf'
    rw [hf] at h
    dsimp only at h
    cases hs : sp68 T C with
    | none => rw [hs] at h; exact k61_ok _ T C r outs h
    | some x =>
      rw [hs] at h
      have hx : x = (true, r, outs) := by simpa using h
      subst hx
      unfold sp68 at hs
      split at hs
      · rename_i t g n d pa de so we co la inc ps
        obtain ⟨hb, rfl, rfl⟩ := spT_inv hs
        have he := ev68 t g n d pa de so we co la inc ps
        obtain ⟨r0, o0, h0, he⟩ := evFin_inv he
        obtain ⟨h1, h2⟩ := fn_ok mixed plain (gk_ok k61_ok 30) Try.func68 (fun c _ => LoopsOK.none (fun _ _ => rfl) c) h0
        exact ⟨h1, h2.fin he⟩
      · cases hs
noncomputable def vev52v0_0 (g n : Int) (d : List UInt8) (pa de : Int) (so : Bool) (we co la inc : Int) (ps : List (List AV)) : Bool := bif !vev61_0 (0 : Int) g n d pa de so we co la inc ps then bif bif true then pa != (0 : Int) else false then true else bif de != (0 : Int) then true else bif bif false then true else so then true else bif bif false then true else bif true then bif false then true else we != (0 : Int) else false then true else bif bif false then true else bif true then co != (0 : Int) else false then true else bif bif false then true else bif true then la != (0 : Int) else false then true else bif bif false then true else bif true then inc != (0 : Int) else false then true else bif bif false then true else bif true then decide ((↑ps.length : Int) > (0 : Int)) else false then true else bif false then true else false else bif de != (0 : Int) then true else bif bif false then true else so then true else bif bif false then true else bif true then bif false then true else we != (0 : Int) else false then true else bif bif false then true else bif true then co != (0 : Int) else false then true else bif bif false then true else bif true then la != (0 : Int) else false then true else bif bif false then true else bif true then inc != (0 : Int) else false then true else bif bif false then true else bif true then decide ((↑ps.length : Int) > (0 : Int)) else false then true else bif false then true else false
theorem ev52v0 (g n : Int) (d : List UInt8) (pa de : Int) (so : Bool) (we co la inc : Int) (ps : List (List AV)) : evFin (cfg Try.prog tab 100000 (gk k68 30) noLsp 52 ([] : List Blk).length Try.f52.ntmps) ([] : List Blk).length Try.f52.resultTypes.toList Try.f52 [.agg [.int .u8 0, .int .u8 g, .int .i64 n, .str d, .int .i64 pa, .int .i64 de, .bool so, .int .u8 we, .int .u32 co, .int .i64 la, .int .i64 inc, .sl .imm [.int .u16, .int .u32] ps]] [] = bif true then some (true, AV.bool (vev52v0_0 g n d pa de so we co la inc ps), []) else none := by
  have h : evFin (cfg Try.prog tab 100000 (gk k68 30) noLsp 52 ([] : List Blk).length Try.f52.ntmps) ([] : List Blk).length Try.f52.resultTypes.toList Try.f52 [.agg [.int .u8 0, .int .u8 g, .int .i64 n, .str d, .int .i64 pa, .int .i64 de, .bool so, .int .u8 we, .int .u32 co, .int .i64 la, .int .i64 inc, .sl .imm [.int .u16, .int .u32] ps]] [] = bif bif !vev61_0 (0 : Int) g n d pa de so we co la inc ps then bif bif true then pa != (0 : Int) else false then true else bif de != (0 : Int) then true else bif bif false then true else so then true else bif bif false then true else bif true then bif false then true else we != (0 : Int) else false then true else bif bif false then true else bif true then co != (0 : Int) else false then true else bif bif false then true else bif true then la != (0 : Int) else false then true else bif bif false then true else bif true then inc != (0 : Int) else false then true else bif bif false then true else bif true then decide ((↑ps.length : Int) > (0 : Int)) else false then true else true else bif de != (0 : Int) then true else bif bif false then true else so then true else bif bif false then true else bif true then bif false then true else we != (0 : Int) else false then true else bif bif false then true else bif true then co != (0 : Int) else false then true else bif bif false then true else bif true then la != (0 : Int) else false then true else bif bif false then true else bif true then inc != (0 : Int) else false then true else bif bif false then true else bif true then decide ((↑ps.length : Int) > (0 : Int)) else false then true else true then some (true, AV.bool (bif !vev61_0 (0 : Int) g n d pa de so we co la inc ps then bif bif true then pa != (0 : Int) else false then true else bif de != (0 : Int) then true else bif bif false then true else so then true else bif bif false then true else bif true then bif false then true else we != (0 : Int) else false then true else bif bif false then true else bif true then co != (0 : Int) else false then true else bif bif false then true else bif true then la != (0 : Int) else false then true else bif bif false then true else bif true then inc != (0 : Int) else false then true else bif bif false then true else bif true then decide ((↑ps.length : Int) > (0 : Int)) else false then true else bif false then true else false else bif de != (0 : Int) then true else bif bif false then true else so then true else bif bif false then true else bif true then bif false then true else we != (0 : Int) else false then true else bif bif false then true else bif true then co != (0 : Int) else false then true else bif bif false then true else bif true then la != (0 : Int) else false then true else bif bif false then true else bif true then inc != (0 : Int) else false then true else bif bif false then true else bif true then decide ((↑ps.length : Int) > (0 : Int)) else false then true else bif false then true else false), []) else none := by kernel_rfl
  rw [h]
  clear h
  unfold vev52v0_0
  generalize (decide ((↑ps.length : Int) > (0 : Int))) = c0
  generalize (!vev61_0 (0 : Int) g n d pa de so we co la inc ps) = c1
  generalize (pa != (0 : Int)) = c2
  generalize (de != (0 : Int)) = c3
  generalize (co != (0 : Int)) = c4
  generalize (we != (0 : Int)) = c5
  generalize (la != (0 : Int)) = c6
  generalize (inc != (0 : Int)) = c7
  generalize (so) = c8
  cases c1; cases c3; cases c8; cases c5; cases c4; cases c6; cases c7; cases c0; rfl; rfl; rfl; rfl; rfl; rfl; rfl; rfl; cases c2; cases c3; cases c8
  cases c5; cases c4; cases c6; cases c7; cases c0; rfl; rfl; rfl; rfl; rfl; rfl; rfl; rfl; rfl
-- spec true ;; (true, AV.bool (vev52v0_0 g n d pa de so we co la inc ps), [])
noncomputable def vev52v1_0 (g n : Int) (d : List UInt8) (pa de : Int) (so : Bool) (we co la inc : Int) (ps : List (List AV)) : Bool := bif !vev61_0 (1 : Int) g n d pa de so we co la inc ps then bif bif true then pa != (0 : Int) else false then true else bif !vev68_0 (1 : Int) g n d pa de so we co la inc ps then bif de != (0 : Int) then true else bif bif false then true else so then true else bif bif false then true else bif true then bif false then true else we != (0 : Int) else false then true else bif bif false then true else bif true then co != (0 : Int) else false then true else bif bif false then true else bif true then la != (0 : Int) else false then true else bif bif false then true else bif true then inc != (0 : Int) else false then true else bif bif false then true else bif true then decide ((↑ps.length : Int) > (0 : Int)) else false then true else bif false then true else false else bif bif false then true else bif true then co != (0 : Int) else false then true else bif bif false then true else bif true then la != (0 : Int) else false then true else bif bif false then true else bif true then inc != (0 : Int) else false then true else bif bif false then true else bif true then decide ((↑ps.length : Int) > (0 : Int)) else false then true else bif false then true else false else bif !vev68_0 (1 : Int) g n d pa de so we co la inc ps then bif de != (0 : Int) then true else bif bif false then true else so then true else bif bif false then true else bif true then bif false then true else we != (0 : Int) else false then true else bif bif false then true else bif true then co != (0 : Int) else false then true else bif bif false then true else bif true then la != (0 : Int) else false then true else bif bif false then true else bif true then inc != (0 : Int) else false then true else bif bif false then true else bif true then decide ((↑ps.length : Int) > (0 : Int)) else false then true else bif false then true else false else bif bif false then true else bif true then co != (0 : Int) else false then true else bif bif false then true else bif true then la != (0 : Int) else false then true else bif bif false then true else bif true then inc != (0 : Int) else false then true else bif bif false then true else bif true then decide ((↑ps.length : Int) > (0 : Int)) else false then true else bif false then true else false
theorem ev52v1 (g n : Int) (d : List UInt8) (pa de : Int) (so : Bool) (we co la inc : Int) (ps : List (List AV)) : evFin (cfg Try.prog tab 100000 (gk k68 30) noLsp 52 ([] : List Blk).length Try.f52.ntmps) ([] : List Blk).length Try.f52.resultTypes.toList Try.f52 [.agg [.int .u8 1, .int .u8 g, .int .i64 n, .str d, .int .i64 pa, .int .i64 de, .bool so, .int .u8 we, .int .u32 co, .int .i64 la, .int .i64 inc, .sl .imm [.int .u16, .int .u32] ps]] [] = bif true then some (true, AV.bool (vev52v1_0 g n d pa de so we co la inc ps), []) else none := by
  have h : evFin (cfg Try.prog tab 100000 (gk k68 30) noLsp 52 ([] : List Blk).length Try.f52.ntmps) ([] : List Blk).length Try.f52.resultTypes.toList Try.f52 [.agg [.int .u8 1, .int .u8 g, .int .i64 n, .str d, .int .i64 pa, .int .i64 de, .bool so, .int .u8 we, .int .u32 co, .int .i64 la, .int .i64 inc, .sl .imm [.int .u16, .int .u32] ps]] [] = bif bif !vev61_0 (1 : Int) g n d pa de so we co la inc ps then bif bif true then pa != (0 : Int) else false then true else bif !vev68_0 (1 : Int) g n d pa de so we co la inc ps then bif de != (0 : Int) then true else bif bif false then true else so then true else bif bif false then true else bif true then bif false then true else we != (0 : Int) else false then true else bif bif false then true else bif true then co != (0 : Int) else false then true else bif bif false then true else bif true then la != (0 : Int) else false then true else bif bif false then true else bif true then inc != (0 : Int) else false then true else bif bif false then true else bif true then decide ((↑ps.length : Int) > (0 : Int)) else false then true else true else bif bif false then true else bif true then co != (0 : Int) else false then true else bif bif false then true else bif true then la != (0 : Int) else false then true else bif bif false then true else bif true then inc != (0 : Int) else false then true else bif bif false then true else bif true then decide ((↑ps.length : Int) > (0 : Int)) else false then true else true else bif !vev68_0 (1 : Int) g n d pa de so we co la inc ps then bif de != (0 : Int) then true else bif bif false then true else so then true else bif bif false then true else bif true then bif false then true else we != (0 : Int) else false then true else bif bif false then true else bif true then co != (0 : Int) else false then true else bif bif false then true else bif true then la != (0 : Int) else false then true else bif bif false then true else bif true then inc != (0 : Int) else false then true else bif bif false then true else bif true then decide ((↑ps.length : Int) > (0 : Int)) else false then true else true else bif bif false then true else bif true then co != (0 : Int) else false then true else bif bif false then true else bif true then la != (0 : Int) else false then true else bif bif false then true else bif true then inc != (0 : Int) else false then true else bif bif false then true else bif true then decide ((↑ps.length : Int) > (0 : Int)) else false then true else true then some (true, AV.bool (bif !vev61_0 (1 : Int) g n d pa de so we co la inc ps then bif bif true then pa != (0 : Int) else false then true else bif !vev68_0 (1 : Int) g n d pa de so we co la inc ps then bif de != (0 : Int) then true else bif bif false then true else so then true else bif bif false then true else bif true then bif false then true else we != (0 : Int) else false then true else bif bif false then true else bif true then co != (0 : Int) else false then true else bif bif false then true else bif true then la != (0 : Int) else false then true else bif bif false then true else bif true then inc != (0 : Int) else false then true else bif bif false then true else bif true then decide ((↑ps.length : Int) > (0 : Int)) else false then true else bif false then true else false else bif bif false then true else bif true then co != (0 : Int) else false then true else bif bif false then true else bif true then la != (0 : Int) else false then true else bif bif false then true else bif true then inc != (0 : Int) else false then true else bif bif false then true else bif true then decide ((↑ps.length : Int) > (0 : Int)) else false then true else bif false then true else false else bif !vev68_0 (1 : Int) g n d pa de so we co la inc ps then bif de != (0 : Int) then true else bif bif false then true else so then true else bif bif false then true else bif true then bif false then true else we != (0 : Int) else false then true else bif bif false then true else bif true then co != (0 : Int) else false then true else bif bif false then true else bif true then la != (0 : Int) else false then true else bif bif false then true else bif true then inc != (0 : Int) else false then true else bif bif false then true else bif true then decide ((↑ps.length : Int) > (0 : Int)) else false then true else bif false then true else false else bif bif false then true else bif true then co != (0 : Int) else false then true else bif bif false then true else bif true then la != (0 : Int) else false then true else bif bif false then true else bif true then inc != (0 : Int) else false then true else bif bif false then true else bif true then decide ((↑ps.length : Int) > (0 : Int)) else false then true else bif false then true else false), []) else none := by kernel_rfl
  rw [h]
  clear h
  unfold vev52v1_0
  generalize (decide ((↑ps.length : Int) > (0 : Int))) = c0
  generalize (!vev61_0 (1 : Int) g n d pa de so we co la inc ps) = c1
  generalize (!vev68_0 (1 : Int) g n d pa de so we co la inc ps) = c2
  generalize (pa != (0 : Int)) = c3
  generalize (de != (0 : Int)) = c4
  generalize (co != (0 : Int)) = c5
  generalize (we != (0 : Int)) = c6
  generalize (la != (0 : Int)) = c7
  generalize (inc != (0 : Int)) = c8
  generalize (so) = c9
  cases c1; cases c2; cases c5; cases c7; cases c8; cases c0; rfl; rfl; rfl; rfl; rfl; cases c4; cases c9; cases c6; cases c5; cases c7; cases c8
  cases c0; rfl; rfl; rfl; rfl; rfl; rfl; rfl; rfl; cases c3; cases c2; cases c5; cases c7; cases c8; cases c0; rfl; rfl; rfl; rfl; rfl; cases c4
  cases c9; cases c6; cases c5; cases c7; cases c8; cases c0; rfl; rfl; rfl; rfl; rfl; rfl; rfl; rfl; rfl
-- spec true ;; (true, AV.bool (vev52v1_0 g n d pa de so we co la inc ps), [])
noncomputable def vev52v2_0 (g n : Int) (d : List UInt8) (pa de : Int) (so : Bool) (we co la inc : Int) (ps : List (List AV)) : Bool := bif bif true then pa != (0 : Int) else false then true else bif bif false then true else bif true then co != (0 : Int) else false then true else bif bif false then true else bif true then la != (0 : Int) else false then true else bif bif false then true else bif true then inc != (0 : Int) else false then true else bif bif false then true else bif true then decide ((↑ps.length : Int) > (0 : Int)) else false then true else bif bif false then true else bif true then !d == (ByteArray.mk #[]).data.toList else false then true else bif false then true else false
theorem ev52v2 (g n : Int) (d : List UInt8) (pa de : Int) (so : Bool) (we co la inc : Int) (ps : List (List AV)) : evFin (cfg Try.prog tab 100000 (gk k68 30) noLsp 52 ([] : List Blk).length Try.f52.ntmps) ([] : List Blk).length Try.f52.resultTypes.toList Try.f52 [.agg [.int .u8 2, .int .u8 g, .int .i64 n, .str d, .int .i64 pa, .int .i64 de, .bool so, .int .u8 we, .int .u32 co, .int .i64 la, .int .i64 inc, .sl .imm [.int .u16, .int .u32] ps]] [] = bif true then some (true, AV.bool (vev52v2_0 g n d pa de so we co la inc ps), []) else none := by
  have h : evFin (cfg Try.prog tab 100000 (gk k68 30) noLsp 52 ([] : List Blk).length Try.f52.ntmps) ([] : List Blk).length Try.f52.resultTypes.toList Try.f52 [.agg [.int .u8 2, .int .u8 g, .int .i64 n, .str d, .int .i64 pa, .int .i64 de, .bool so, .int .u8 we, .int .u32 co, .int .i64 la, .int .i64 inc, .sl .imm [.int .u16, .int .u32] ps]] [] = bif bif bif true then pa != (0 : Int) else false then true else bif bif false then true else bif true then co != (0 : Int) else false then true else bif bif false then true else bif true then la != (0 : Int) else false then true else bif bif false then true else bif true then inc != (0 : Int) else false then true else bif bif false then true else bif true then decide ((↑ps.length : Int) > (0 : Int)) else false then true else bif bif false then true else bif true then !d == (ByteArray.mk #[]).data.toList else false then true else true then some (true, AV.bool (bif bif true then pa != (0 : Int) else false then true else bif bif false then true else bif true then co != (0 : Int) else false then true else bif bif false then true else bif true then la != (0 : Int) else false then true else bif bif false then true else bif true then inc != (0 : Int) else false then true else bif bif false then true else bif true then decide ((↑ps.length : Int) > (0 : Int)) else false then true else bif bif false then true else bif true then !d == (ByteArray.mk #[]).data.toList else false then true else bif false then true else false), []) else none := by kernel_rfl
  rw [h]
  clear h
  unfold vev52v2_0
  generalize (decide ((↑ps.length : Int) > (0 : Int))) = c0
  generalize (!d == (ByteArray.mk #[]).data.toList) = c1
  generalize (pa != (0 : Int)) = c2
  generalize (la != (0 : Int)) = c3
  generalize (inc != (0 : Int)) = c4
  generalize (co != (0 : Int)) = c5
  cases c2; cases c5; cases c3; cases c4; cases c0; cases c1; rfl; rfl; rfl; rfl; rfl; rfl; rfl
-- spec true ;; (true, AV.bool (vev52v2_0 g n d pa de so we co la inc ps), [])
noncomputable def vev52v3_0 (g n : Int) (d : List UInt8) (pa de : Int) (so : Bool) (we co la inc : Int) (ps : List (List AV)) : Bool := bif bif true then pa != (0 : Int) else false then true else bif de != (0 : Int) then true else bif bif false then true else so then true else bif bif false then true else bif true then bif false then true else we != (0 : Int) else false then true else bif bif false then true else bif true then la != (0 : Int) else false then true else bif bif false then true else bif true then inc != (0 : Int) else false then true else bif bif false then true else bif true then decide ((↑ps.length : Int) > (0 : Int)) else false then true else bif bif false then true else bif true then !d == (ByteArray.mk #[]).data.toList else false then true else bif false then true else false
theorem ev52v3 (g n : Int) (d : List UInt8) (pa de : Int) (so : Bool) (we co la inc : Int) (ps : List (List AV)) : evFin (cfg Try.prog tab 100000 (gk k68 30) noLsp 52 ([] : List Blk).length Try.f52.ntmps) ([] : List Blk).length Try.f52.resultTypes.toList Try.f52 [.agg [.int .u8 3, .int .u8 g, .int .i64 n, .str d, .int .i64 pa, .int .i64 de, .bool so, .int .u8 we, .int .u32 co, .int .i64 la, .int .i64 inc, .sl .imm [.int .u16, .int .u32] ps]] [] = bif true then some (true, AV.bool (vev52v3_0 g n d pa de so we co la inc ps), []) else none := by
  have h : evFin (cfg Try.prog tab 100000 (gk k68 30) noLsp 52 ([] : List Blk).length Try.f52.ntmps) ([] : List Blk).length Try.f52.resultTypes.toList Try.f52 [.agg [.int .u8 3, .int .u8 g, .int .i64 n, .str d, .int .i64 pa, .int .i64 de, .bool so, .int .u8 we, .int .u32 co, .int .i64 la, .int .i64 inc, .sl .imm [.int .u16, .int .u32] ps]] [] = bif bif bif true then pa != (0 : Int) else false then true else bif de != (0 : Int) then true else bif bif false then true else so then true else bif bif false then true else bif true then bif false then true else we != (0 : Int) else false then true else bif bif false then true else bif true then la != (0 : Int) else false then true else bif bif false then true else bif true then inc != (0 : Int) else false then true else bif bif false then true else bif true then decide ((↑ps.length : Int) > (0 : Int)) else false then true else bif bif false then true else bif true then !d == (ByteArray.mk #[]).data.toList else false then true else true then some (true, AV.bool (bif bif true then pa != (0 : Int) else false then true else bif de != (0 : Int) then true else bif bif false then true else so then true else bif bif false then true else bif true then bif false then true else we != (0 : Int) else false then true else bif bif false then true else bif true then la != (0 : Int) else false then true else bif bif false then true else bif true then inc != (0 : Int) else false then true else bif bif false then true else bif true then decide ((↑ps.length : Int) > (0 : Int)) else false then true else bif bif false then true else bif true then !d == (ByteArray.mk #[]).data.toList else false then true else bif false then true else false), []) else none := by kernel_rfl
  rw [h]
  clear h
  unfold vev52v3_0
  generalize (decide ((↑ps.length : Int) > (0 : Int))) = c0
  generalize (!d == (ByteArray.mk #[]).data.toList) = c1
  generalize (pa != (0 : Int)) = c2
  generalize (inc != (0 : Int)) = c3
  generalize (we != (0 : Int)) = c4
  generalize (la != (0 : Int)) = c5
  generalize (de != (0 : Int)) = c6
  generalize (so) = c7
  cases c2; cases c6; cases c7; cases c4; cases c5; cases c3; cases c0; cases c1; rfl; rfl; rfl; rfl; rfl; rfl; rfl; rfl; rfl
-- spec true ;; (true, AV.bool (vev52v3_0 g n d pa de so we co la inc ps), [])
noncomputable def vev52v4_0 (g n : Int) (d : List UInt8) (pa de : Int) (so : Bool) (we co la inc : Int) (ps : List (List AV)) : Bool := bif bif true then pa != (0 : Int) else false then true else bif de != (0 : Int) then true else bif bif false then true else so then true else bif bif false then true else bif true then bif false then true else we != (0 : Int) else false then true else bif bif false then true else bif true then co != (0 : Int) else false then true else bif bif false then true else bif true then la != (0 : Int) else false then true else bif bif false then true else bif true then inc != (0 : Int) else false then true else bif bif false then true else bif true then !d == (ByteArray.mk #[]).data.toList else false then true else bif bif true then vev55_0 g (1 : Int) else false then bif false then true else bif true then decide ((↑ps.length : Int) > (0 : Int)) else false else bif false then true else false
theorem ev52v4 (g n : Int) (d : List UInt8) (pa de : Int) (so : Bool) (we co la inc : Int) (ps : List (List AV)) : evFin (cfg Try.prog tab 100000 (gk k68 30) noLsp 52 ([] : List Blk).length Try.f52.ntmps) ([] : List Blk).length Try.f52.resultTypes.toList Try.f52 [.agg [.int .u8 4, .int .u8 g, .int .i64 n, .str d, .int .i64 pa, .int .i64 de, .bool so, .int .u8 we, .int .u32 co, .int .i64 la, .int .i64 inc, .sl .imm [.int .u16, .int .u32] ps]] [] = bif true then some (true, AV.bool (vev52v4_0 g n d pa de so we co la inc ps), []) else none := by
  have h : evFin (cfg Try.prog tab 100000 (gk k68 30) noLsp 52 ([] : List Blk).length Try.f52.ntmps) ([] : List Blk).length Try.f52.resultTypes.toList Try.f52 [.agg [.int .u8 4, .int .u8 g, .int .i64 n, .str d, .int .i64 pa, .int .i64 de, .bool so, .int .u8 we, .int .u32 co, .int .i64 la, .int .i64 inc, .sl .imm [.int .u16, .int .u32] ps]] [] = bif bif bif true then pa != (0 : Int) else false then true else bif de != (0 : Int) then true else bif bif false then true else so then true else bif bif false then true else bif true then bif false then true else we != (0 : Int) else false then true else bif bif false then true else bif true then co != (0 : Int) else false then true else bif bif false then true else bif true then la != (0 : Int) else false then true else bif bif false then true else bif true then inc != (0 : Int) else false then true else bif bif false then true else bif true then !d == (ByteArray.mk #[]).data.toList else false then true else bif bif true then vev55_0 g (1 : Int) else false then true else true then some (true, AV.bool (bif bif true then pa != (0 : Int) else false then true else bif de != (0 : Int) then true else bif bif false then true else so then true else bif bif false then true else bif true then bif false then true else we != (0 : Int) else false then true else bif bif false then true else bif true then co != (0 : Int) else false then true else bif bif false then true else bif true then la != (0 : Int) else false then true else bif bif false then true else bif true then inc != (0 : Int) else false then true else bif bif false then true else bif true then !d == (ByteArray.mk #[]).data.toList else false then true else bif bif true then vev55_0 g (1 : Int) else false then bif false then true else bif true then decide ((↑ps.length : Int) > (0 : Int)) else false else bif false then true else false), []) else none := by kernel_rfl
  rw [h]
  clear h
  unfold vev52v4_0
  generalize (!d == (ByteArray.mk #[]).data.toList) = c0
  generalize (co != (0 : Int)) = c1
  generalize (de != (0 : Int)) = c2
  generalize (la != (0 : Int)) = c3
  generalize (we != (0 : Int)) = c4
  generalize (pa != (0 : Int)) = c5
  generalize (inc != (0 : Int)) = c6
  generalize (vev55_0 g (1 : Int)) = c7
  generalize (so) = c8
  cases c5; cases c2; cases c8; cases c4; cases c1; cases c3; cases c6; cases c0; cases c7; rfl; rfl; rfl; rfl; rfl; rfl; rfl; rfl; rfl; rfl
-- spec true ;; (true, AV.bool (vev52v4_0 g n d pa de so we co la inc ps), [])
noncomputable def vev52v5_0 (g n : Int) (d : List UInt8) (pa de : Int) (so : Bool) (we co la inc : Int) (ps : List (List AV)) : Bool := bif bif true then pa != (0 : Int) else false then true else bif de != (0 : Int) then true else bif bif false then true else so then true else bif bif false then true else bif true then bif false then true else we != (0 : Int) else false then true else bif bif false then true else bif true then co != (0 : Int) else false then true else bif bif false then true else bif true then la != (0 : Int) else false then true else bif bif false then true else bif true then inc != (0 : Int) else false then true else bif bif false then true else bif true then decide ((↑ps.length : Int) > (0 : Int)) else false then true else bif false then true else false
theorem ev52v5 (g n : Int) (d : List UInt8) (pa de : Int) (so : Bool) (we co la inc : Int) (ps : List (List AV)) : evFin (cfg Try.prog tab 100000 (gk k68 30) noLsp 52 ([] : List Blk).length Try.f52.ntmps) ([] : List Blk).length Try.f52.resultTypes.toList Try.f52 [.agg [.int .u8 5, .int .u8 g, .int .i64 n, .str d, .int .i64 pa, .int .i64 de, .bool so, .int .u8 we, .int .u32 co, .int .i64 la, .int .i64 inc, .sl .imm [.int .u16, .int .u32] ps]] [] = bif true then some (true, AV.bool (vev52v5_0 g n d pa de so we co la inc ps), []) else none := by
  have h : evFin (cfg Try.prog tab 100000 (gk k68 30) noLsp 52 ([] : List Blk).length Try.f52.ntmps) ([] : List Blk).length Try.f52.resultTypes.toList Try.f52 [.agg [.int .u8 5, .int .u8 g, .int .i64 n, .str d, .int .i64 pa, .int .i64 de, .bool so, .int .u8 we, .int .u32 co, .int .i64 la, .int .i64 inc, .sl .imm [.int .u16, .int .u32] ps]] [] = bif bif bif true then pa != (0 : Int) else false then true else bif de != (0 : Int) then true else bif bif false then true else so then true else bif bif false then true else bif true then bif false then true else we != (0 : Int) else false then true else bif bif false then true else bif true then co != (0 : Int) else false then true else bif bif false then true else bif true then la != (0 : Int) else false then true else bif bif false then true else bif true then inc != (0 : Int) else false then true else bif bif false then true else bif true then decide ((↑ps.length : Int) > (0 : Int)) else false then true else true then some (true, AV.bool (bif bif true then pa != (0 : Int) else false then true else bif de != (0 : Int) then true else bif bif false then true else so then true else bif bif false then true else bif true then bif false then true else we != (0 : Int) else false then true else bif bif false then true else bif true then co != (0 : Int) else false then true else bif bif false then true else bif true then la != (0 : Int) else false then true else bif bif false then true else bif true then inc != (0 : Int) else false then true else bif bif false then true else bif true then decide ((↑ps.length : Int) > (0 : Int)) else false then true else bif false then true else false), []) else none := by kernel_rfl
  rw [h]
  clear h
  unfold vev52v5_0
  generalize (decide ((↑ps.length : Int) > (0 : Int))) = c0
  generalize (pa != (0 : Int)) = c1
  generalize (de != (0 : Int)) = c2
  generalize (co != (0 : Int)) = c3
  generalize (we != (0 : Int)) = c4
  generalize (la != (0 : Int)) = c5
  generalize (inc != (0 : Int)) = c6
  generalize (so) = c7
  cases c1; cases c2; cases c7; cases c4; cases c3; cases c5; cases c6; cases c0; rfl; rfl; rfl; rfl; rfl; rfl; rfl; rfl; rfl
-- spec true ;; (true, AV.bool (vev52v5_0 g n d pa de so we co la inc ps), [])
noncomputable def vev52v6_0 (g n : Int) (d : List UInt8) (pa de : Int) (so : Bool) (we co la inc : Int) (ps : List (List AV)) : Bool := bif bif true then pa != (0 : Int) else false then true else bif de != (0 : Int) then true else bif bif false then true else so then true else bif bif false then true else bif true then bif false then true else we != (0 : Int) else false then true else bif bif false then true else bif true then co != (0 : Int) else false then true else bif bif false then true else bif true then la != (0 : Int) else false then true else bif bif false then true else bif true then inc != (0 : Int) else false then true else bif bif false then true else bif true then decide ((↑ps.length : Int) > (0 : Int)) else false then true else bif bif false then true else bif true then (↑d.length : Int) != (8 : Int) else false then true else bif false then true else false
theorem ev52v6 (g n : Int) (d : List UInt8) (pa de : Int) (so : Bool) (we co la inc : Int) (ps : List (List AV)) : evFin (cfg Try.prog tab 100000 (gk k68 30) noLsp 52 ([] : List Blk).length Try.f52.ntmps) ([] : List Blk).length Try.f52.resultTypes.toList Try.f52 [.agg [.int .u8 6, .int .u8 g, .int .i64 n, .str d, .int .i64 pa, .int .i64 de, .bool so, .int .u8 we, .int .u32 co, .int .i64 la, .int .i64 inc, .sl .imm [.int .u16, .int .u32] ps]] [] = bif true then some (true, AV.bool (vev52v6_0 g n d pa de so we co la inc ps), []) else none := by
  have h : evFin (cfg Try.prog tab 100000 (gk k68 30) noLsp 52 ([] : List Blk).length Try.f52.ntmps) ([] : List Blk).length Try.f52.resultTypes.toList Try.f52 [.agg [.int .u8 6, .int .u8 g, .int .i64 n, .str d, .int .i64 pa, .int .i64 de, .bool so, .int .u8 we, .int .u32 co, .int .i64 la, .int .i64 inc, .sl .imm [.int .u16, .int .u32] ps]] [] = bif bif bif true then pa != (0 : Int) else false then true else bif de != (0 : Int) then true else bif bif false then true else so then true else bif bif false then true else bif true then bif false then true else we != (0 : Int) else false then true else bif bif false then true else bif true then co != (0 : Int) else false then true else bif bif false then true else bif true then la != (0 : Int) else false then true else bif bif false then true else bif true then inc != (0 : Int) else false then true else bif bif false then true else bif true then decide ((↑ps.length : Int) > (0 : Int)) else false then true else bif bif false then true else bif true then (↑d.length : Int) != (8 : Int) else false then true else true then some (true, AV.bool (bif bif true then pa != (0 : Int) else false then true else bif de != (0 : Int) then true else bif bif false then true else so then true else bif bif false then true else bif true then bif false then true else we != (0 : Int) else false then true else bif bif false then true else bif true then co != (0 : Int) else false then true else bif bif false then true else bif true then la != (0 : Int) else false then true else bif bif false then true else bif true then inc != (0 : Int) else false then true else bif bif false then true else bif true then decide ((↑ps.length : Int) > (0 : Int)) else false then true else bif bif false then true else bif true then (↑d.length : Int) != (8 : Int) else false then true else bif false then true else false), []) else none := by kernel_rfl
  rw [h]
  clear h
  unfold vev52v6_0
  generalize (decide ((↑ps.length : Int) > (0 : Int))) = c0
  generalize ((↑d.length : Int) != (8 : Int)) = c1
  generalize (pa != (0 : Int)) = c2
  generalize (la != (0 : Int)) = c3
  generalize (we != (0 : Int)) = c4
  generalize (co != (0 : Int)) = c5
  generalize (inc != (0 : Int)) = c6
  generalize (de != (0 : Int)) = c7
  generalize (so) = c8
  cases c2; cases c7; cases c8; cases c4; cases c5; cases c3; cases c6; cases c0; cases c1; rfl; rfl; rfl; rfl; rfl; rfl; rfl; rfl; rfl; rfl
-- spec true ;; (true, AV.bool (vev52v6_0 g n d pa de so we co la inc ps), [])
noncomputable def vev52v7_0 (g n : Int) (d : List UInt8) (pa de : Int) (so : Bool) (we co la inc : Int) (ps : List (List AV)) : Bool := bif bif true then pa != (0 : Int) else false then true else bif de != (0 : Int) then true else bif bif false then true else so then true else bif bif false then true else bif true then bif false then true else we != (0 : Int) else false then true else bif bif false then true else bif true then inc != (0 : Int) else false then true else bif bif false then true else bif true then decide ((↑ps.length : Int) > (0 : Int)) else false then true else bif false then true else false
theorem ev52v7 (g n : Int) (d : List UInt8) (pa de : Int) (so : Bool) (we co la inc : Int) (ps : List (List AV)) : evFin (cfg Try.prog tab 100000 (gk k68 30) noLsp 52 ([] : List Blk).length Try.f52.ntmps) ([] : List Blk).length Try.f52.resultTypes.toList Try.f52 [.agg [.int .u8 7, .int .u8 g, .int .i64 n, .str d, .int .i64 pa, .int .i64 de, .bool so, .int .u8 we, .int .u32 co, .int .i64 la, .int .i64 inc, .sl .imm [.int .u16, .int .u32] ps]] [] = bif true then some (true, AV.bool (vev52v7_0 g n d pa de so we co la inc ps), []) else none := by
  have h : evFin (cfg Try.prog tab 100000 (gk k68 30) noLsp 52 ([] : List Blk).length Try.f52.ntmps) ([] : List Blk).length Try.f52.resultTypes.toList Try.f52 [.agg [.int .u8 7, .int .u8 g, .int .i64 n, .str d, .int .i64 pa, .int .i64 de, .bool so, .int .u8 we, .int .u32 co, .int .i64 la, .int .i64 inc, .sl .imm [.int .u16, .int .u32] ps]] [] = bif bif bif true then pa != (0 : Int) else false then true else bif de != (0 : Int) then true else bif bif false then true else so then true else bif bif false then true else bif true then bif false then true else we != (0 : Int) else false then true else bif bif false then true else bif true then inc != (0 : Int) else false then true else bif bif false then true else bif true then decide ((↑ps.length : Int) > (0 : Int)) else false then true else true then some (true, AV.bool (bif bif true then pa != (0 : Int) else false then true else bif de != (0 : Int) then true else bif bif false then true else so then true else bif bif false then true else bif true then bif false then true else we != (0 : Int) else false then true else bif bif false then true else bif true then inc != (0 : Int) else false then true else bif bif false then true else bif true then decide ((↑ps.length : Int) > (0 : Int)) else false then true else bif false then true else false), []) else none := by kernel_rfl
  rw [h]
  clear h
  unfold vev52v7_0
  generalize (decide ((↑ps.length : Int) > (0 : Int))) = c0
  generalize (pa != (0 : Int)) = c1
  generalize (de != (0 : Int)) = c2
  generalize (we != (0 : Int)) = c3
  generalize (inc != (0 : Int)) = c4
  generalize (so) = c5
  cases c1; cases c2; cases c5; cases c3; cases c4; cases c0; rfl; rfl; rfl; rfl; rfl; rfl; rfl
-- spec true ;; (true, AV.bool (vev52v7_0 g n d pa de so we co la inc ps), [])
noncomputable def vev52v8_0 (g n : Int) (d : List UInt8) (pa de : Int) (so : Bool) (we co la inc : Int) (ps : List (List AV)) : Bool := bif bif true then pa != (0 : Int) else false then true else bif de != (0 : Int) then true else bif bif false then true else so then true else bif bif false then true else bif true then bif false then true else we != (0 : Int) else false then true else bif bif false then true else bif true then co != (0 : Int) else false then true else bif bif false then true else bif true then la != (0 : Int) else false then true else bif bif false then true else bif true then decide ((↑ps.length : Int) > (0 : Int)) else false then true else bif bif false then true else bif true then !d == (ByteArray.mk #[]).data.toList else false then true else bif false then true else false
theorem ev52v8 (g n : Int) (d : List UInt8) (pa de : Int) (so : Bool) (we co la inc : Int) (ps : List (List AV)) : evFin (cfg Try.prog tab 100000 (gk k68 30) noLsp 52 ([] : List Blk).length Try.f52.ntmps) ([] : List Blk).length Try.f52.resultTypes.toList Try.f52 [.agg [.int .u8 8, .int .u8 g, .int .i64 n, .str d, .int .i64 pa, .int .i64 de, .bool so, .int .u8 we, .int .u32 co, .int .i64 la, .int .i64 inc, .sl .imm [.int .u16, .int .u32] ps]] [] = bif true then some (true, AV.bool (vev52v8_0 g n d pa de so we co la inc ps), []) else none := by
  have h : evFin (cfg Try.prog tab 100000 (gk k68 30) noLsp 52 ([] : List Blk).length Try.f52.ntmps) ([] : List Blk).length Try.f52.resultTypes.toList Try.f52 [.agg [.int .u8 8, .int .u8 g, .int .i64 n, .str d, .int .i64 pa, .int .i64 de, .bool so, .int .u8 we, .int .u32 co, .int .i64 la, .int .i64 inc, .sl .imm [.int .u16, .int .u32] ps]] [] = bif bif bif true then pa != (0 : Int) else false then true else bif de != (0 : Int) then true else bif bif false then true else so then true else bif bif false then true else bif true then bif false then true else we != (0 : Int) else false then true else bif bif false then true else bif true then co != (0 : Int) else false then true else bif bif false then true else bif true then la != (0 : Int) else false then true else bif bif false then true else bif true then decide ((↑ps.length : Int) > (0 : Int)) else false then true else bif bif false then true else bif true then !d == (ByteArray.mk #[]).data.toList else false then true else true then some (true, AV.bool (bif bif true then pa != (0 : Int) else false then true else bif de != (0 : Int) then true else bif bif false then true else so then true else bif bif false then true else bif true then bif false then true else we != (0 : Int) else false then true else bif bif false then true else bif true then co != (0 : Int) else false then true else bif bif false then true else bif true then la != (0 : Int) else false then true else bif bif false then true else bif true then decide ((↑ps.length : Int) > (0 : Int)) else false then true else bif bif false then true else bif true then !d == (ByteArray.mk #[]).data.toList else false then true else bif false then true else false), []) else none := by kernel_rfl
  rw [h]
  clear h
  unfold vev52v8_0
  generalize (decide ((↑ps.length : Int) > (0 : Int))) = c0
  generalize (!d == (ByteArray.mk #[]).data.toList) = c1
  generalize (pa != (0 : Int)) = c2
  generalize (la != (0 : Int)) = c3
  generalize (we != (0 : Int)) = c4
  generalize (co != (0 : Int)) = c5
  generalize (de != (0 : Int)) = c6
  generalize (so) = c7
  cases c2; cases c6; cases c7; cases c4; cases c5; cases c3; cases c0; cases c1; rfl; rfl; rfl; rfl; rfl; rfl; rfl; rfl; rfl
-- spec true ;; (true, AV.bool (vev52v8_0 g n d pa de so we co la inc ps), [])
noncomputable def vev52vx_0 (k : Nat) (g n : Int) (d : List UInt8) (pa de : Int) (so : Bool) (we co la inc : Int) (ps : List (List AV)) : Bool := bif bif true then pa != (0 : Int) else false then true else bif de != (0 : Int) then true else bif bif false then true else so then true else bif bif false then true else bif true then bif false then true else we != (0 : Int) else false then true else bif bif false then true else bif true then co != (0 : Int) else false then true else bif bif false then true else bif true then la != (0 : Int) else false then true else bif bif false then true else bif true then inc != (0 : Int) else false then true else bif bif false then true else bif true then decide ((↑ps.length : Int) > (0 : Int)) else false then true else bif false then true else false
theorem ev52vx (k : Nat) (g n : Int) (d : List UInt8) (pa de : Int) (so : Bool) (we co la inc : Int) (ps : List (List AV)) : evFin (cfg Try.prog tab 100000 (gk k68 30) noLsp 52 ([] : List Blk).length Try.f52.ntmps) ([] : List Blk).length Try.f52.resultTypes.toList Try.f52 [.agg [.int .u8 ((k + 9 : Nat) : Int), .int .u8 g, .int .i64 n, .str d, .int .i64 pa, .int .i64 de, .bool so, .int .u8 we, .int .u32 co, .int .i64 la, .int .i64 inc, .sl .imm [.int .u16, .int .u32] ps]] [] = bif true then some (true, AV.bool (vev52vx_0 k g n d pa de so we co la inc ps), []) else none := by
  have h : evFin (cfg Try.prog tab 100000 (gk k68 30) noLsp 52 ([] : List Blk).length Try.f52.ntmps) ([] : List Blk).length Try.f52.resultTypes.toList Try.f52 [.agg [.int .u8 ((k + 9 : Nat) : Int), .int .u8 g, .int .i64 n, .str d, .int .i64 pa, .int .i64 de, .bool so, .int .u8 we, .int .u32 co, .int .i64 la, .int .i64 inc, .sl .imm [.int .u16, .int .u32] ps]] [] = bif bif bif true then pa != (0 : Int) else false then true else bif de != (0 : Int) then true else bif bif false then true else so then true else bif bif false then true else bif true then bif false then true else we != (0 : Int) else false then true else bif bif false then true else bif true then co != (0 : Int) else false then true else bif bif false then true else bif true then la != (0 : Int) else false then true else bif bif false then true else bif true then inc != (0 : Int) else false then true else bif bif false then true else bif true then decide ((↑ps.length : Int) > (0 : Int)) else false then true else true then some (true, AV.bool (bif bif true then pa != (0 : Int) else false then true else bif de != (0 : Int) then true else bif bif false then true else so then true else bif bif false then true else bif true then bif false then true else we != (0 : Int) else false then true else bif bif false then true else bif true then co != (0 : Int) else false then true else bif bif false then true else bif true then la != (0 : Int) else false then true else bif bif false then true else bif true then inc != (0 : Int) else false then true else bif bif false then true else bif true then decide ((↑ps.length : Int) > (0 : Int)) else false then true else bif false then true else false), []) else none := by kernel_rfl
  rw [h]
  clear h
  unfold vev52vx_0
  generalize (decide ((↑ps.length : Int) > (0 : Int))) = c0
  generalize (pa != (0 : Int)) = c1
  generalize (de != (0 : Int)) = c2
  generalize (co != (0 : Int)) = c3
  generalize (we != (0 : Int)) = c4
  generalize (la != (0 : Int)) = c5
  generalize (inc != (0 : Int)) = c6
  generalize (so) = c7
  cases c1; cases c2; cases c7; cases c4; cases c3; cases c5; cases c6; cases c0; rfl; rfl; rfl; rfl; rfl; rfl; rfl; rfl; rfl
-- spec true ;; (true, AV.bool (vev52vx_0 k g n d pa de so we co la inc ps), [])
end Go.Proofs.Gv
