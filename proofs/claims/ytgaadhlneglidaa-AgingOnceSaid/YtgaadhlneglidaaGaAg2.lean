import Derived.Test.YtgaadhlneglidaaGt
import Derived.KernelRfl
import Derived.Test.YtgaadhlneglidaaGwF
import Derived.Test.YtgaadhlneglidaaGaAg
namespace Go.Proofs.Gv
open Go.Proofs
set_option linter.unusedVariables false
noncomputable def vev34_0 (n : Int) (a : Int) (b : Int) : Bool := bif decide (a ≤ n) then bif true then decide (n ≤ b) else false else false
theorem ev34 (n : Int) (a : Int) (b : Int) : evFin (cfg Try.prog tab 100000 (gk k8 30) noLsp 34 ([] : List Blk).length Try.f34.ntmps) ([] : List Blk).length Try.f34.resultTypes.toList Try.f34 [.int .i64 n, .int .i64 a, .int .i64 b] [] = bif true then some (true, AV.bool (vev34_0 n a b), []) else none := by
  have h : evFin (cfg Try.prog tab 100000 (gk k8 30) noLsp 34 ([] : List Blk).length Try.f34.ntmps) ([] : List Blk).length Try.f34.resultTypes.toList Try.f34 [.int .i64 n, .int .i64 a, .int .i64 b] [] = bif bif decide (a ≤ n) then true else true then some (true, AV.bool (bif decide (a ≤ n) then bif true then decide (n ≤ b) else false else false), []) else none := by kernel_rfl
  rw [h]
  clear h
  unfold vev34_0
  generalize (decide (a ≤ n)) = c0
  cases c0
  · skip
    rfl
  · skip
    rfl
-- spec true ;; (true, AV.bool (vev34_0 n a b), [])
noncomputable def sp34 : List AV → List Blk → Option (Bool × AV × List Blk)
  | [.int .i64 n, .int .i64 a, .int .i64 b], [] => spW (true) (some ((true, AV.bool (vev34_0 n a b), [])))
  | _, _ => none
noncomputable def k34 : Gam := fun f T C => match Nat.beq f 34 with
  | true => (sp34 T C).or (k8 f T C)
  | false => k8 f T C
theorem k34_ok : GamOK Try.prog k34 := by
  intro f T C r outs h
  unfold k34 at h
  cases hf : Nat.beq f 34 with
  | false => rw [hf] at h; exact k8_ok f T C r outs h
  | true =>
    have hf' := Nat.eq_of_beq_eq_true hf
    subst hf'
    rw [hf] at h
    dsimp only at h
    cases hs : sp34 T C with
    | none => rw [hs] at h; exact k8_ok _ T C r outs h
    | some x =>
      rw [hs] at h
      have hx : x = (true, r, outs) := by simpa using h
      subst hx
      unfold sp34 at hs
      split at hs
      · rename_i n a b
        obtain ⟨hb, rfl, rfl⟩ := spT_inv hs
        have he := ev34 n a b
        obtain ⟨r0, o0, h0, he⟩ := evFin_inv he
        obtain ⟨h1, h2⟩ := fn_ok mixed plain (gk_ok k8_ok 30) Try.func34 (fun c _ => LoopsOK.none (fun _ _ => rfl) c) h0
        exact ⟨h1, h2.fin he⟩
      · cases hs
noncomputable def vev28_0 (a : Int) (b : Int) (c : Int) (d : Int) : Bool := bif vev34_0 a (1 : Int) (2147483647 : Int) then bif bif true then vev34_0 b (0 : Int) (7 : Int) else false then bif bif true then vev34_0 c (1 : Int) (1099511627776 : Int) else false then bif true then vev34_0 d (0 : Int) (2000 : Int) else false else false else false else false
theorem ev28 (a : Int) (b : Int) (c : Int) (d : Int) : evFin (cfg Try.prog tab 100000 (gk k34 30) noLsp 28 ([] : List Blk).length Try.f28.ntmps) ([] : List Blk).length Try.f28.resultTypes.toList Try.f28 [.agg [.int .i64 a, .int .i64 b, .int .i64 c, .int .i64 d]] [] = bif true then some (true, AV.bool (vev28_0 a b c d), []) else none := by
  have h : evFin (cfg Try.prog tab 100000 (gk k34 30) noLsp 28 ([] : List Blk).length Try.f28.ntmps) ([] : List Blk).length Try.f28.resultTypes.toList Try.f28 [.agg [.int .i64 a, .int .i64 b, .int .i64 c, .int .i64 d]] [] = bif bif vev34_0 a (1 : Int) (2147483647 : Int) then bif bif true then vev34_0 b (0 : Int) (7 : Int) else false then bif bif true then vev34_0 c (1 : Int) (1099511627776 : Int) else false then true else true else true else true then some (true, AV.bool (bif vev34_0 a (1 : Int) (2147483647 : Int) then bif bif true then vev34_0 b (0 : Int) (7 : Int) else false then bif bif true then vev34_0 c (1 : Int) (1099511627776 : Int) else false then bif true then vev34_0 d (0 : Int) (2000 : Int) else false else false else false else false), []) else none := by kernel_rfl
  rw [h]
  clear h
  unfold vev28_0
  generalize (vev34_0 c (1 : Int) (1099511627776 : Int)) = c0
  generalize (vev34_0 a (1 : Int) (2147483647 : Int)) = c1
  generalize (vev34_0 b (0 : Int) (7 : Int)) = c2
  cases c1
  · skip
    rfl
  · skip
    cases c2
    · skip
      rfl
    · skip
      cases c0
      · skip
        rfl
      · skip
        rfl
-- spec true ;; (true, AV.bool (vev28_0 a b c d), [])
noncomputable def sp28 : List AV → List Blk → Option (Bool × AV × List Blk)
  | [.agg [.int .i64 a, .int .i64 b, .int .i64 c, .int .i64 d]], [] => spW (true) (some ((true, AV.bool (vev28_0 a b c d), [])))
  | _, _ => none
noncomputable def k28 : Gam := fun f T C => match Nat.beq f 28 with
  | true => (sp28 T C).or (k34 f T C)
  | false => k34 f T C
theorem k28_ok : GamOK Try.prog k28 := by
  intro f T C r outs h
  unfold k28 at h
  cases hf : Nat.beq f 28 with
  | false => rw [hf] at h; exact k34_ok f T C r outs h
  | true =>
    have hf' := Nat.eq_of_beq_eq_true hf
    subst hf'
    rw [hf] at h
    dsimp only at h
    cases hs : sp28 T C with
    | none => rw [hs] at h; exact k34_ok _ T C r outs h
    | some x =>
      rw [hs] at h
      have hx : x = (true, r, outs) := by simpa using h
      subst hx
      unfold sp28 at hs
      split at hs
      · rename_i a b c d
        obtain ⟨hb, rfl, rfl⟩ := spT_inv hs
        have he := ev28 a b c d
        obtain ⟨r0, o0, h0, he⟩ := evFin_inv he
        obtain ⟨h1, h2⟩ := fn_ok mixed plain (gk_ok k34_ok 30) Try.func28 (fun c _ => LoopsOK.none (fun _ _ => rfl) c) h0
        exact ⟨h1, h2.fin he⟩
      · cases hs
theorem ev40 (a : Int) (b : Int) (c : Int) (d : Int) : evFin (cfg Try.prog tab 100000 (gk k28 30) noLsp 40 ([] : List Blk).length Try.f40.ntmps) ([] : List Blk).length Try.f40.resultTypes.toList Try.f40 [.agg [.int .i64 a, .int .i64 b, .int .i64 c, .int .i64 d]] [] = some (true, AV.bool !vev28_0 a b c d, []) := by kernel_rfl
-- spec true ;; (true, AV.bool !vev28_0 a b c d, [])
noncomputable def sp40 : List AV → List Blk → Option (Bool × AV × List Blk)
  | [.agg [.int .i64 a, .int .i64 b, .int .i64 c, .int .i64 d]], [] => spW (true) (some ((true, AV.bool !vev28_0 a b c d, [])))
  | _, _ => none
noncomputable def k40 : Gam := fun f T C => match Nat.beq f 40 with
  | true => (sp40 T C).or (k28 f T C)
  | false => k28 f T C
theorem k40_ok : GamOK Try.prog k40 := by
  intro f T C r outs h
  unfold k40 at h
  cases hf : Nat.beq f 40 with
  | false => rw [hf] at h; exact k28_ok f T C r outs h
  | true =>
    have hf' := Nat.eq_of_beq_eq_true hf
    subst hf'
    rw [hf] at h
    dsimp only at h
    cases hs : sp40 T C with
    | none => rw [hs] at h; exact k28_ok _ T C r outs h
    | some x =>
      rw [hs] at h
      have hx : x = (true, r, outs) := by simpa using h
      subst hx
      unfold sp40 at hs
      split at hs
      · rename_i a b c d
        obtain ⟨hb, rfl, rfl⟩ := spT_inv hs
        have he := ev40 a b c d
        obtain ⟨r0, o0, h0, he⟩ := evFin_inv he
        obtain ⟨h1, h2⟩ := fn_ok mixed plain (gk_ok k28_ok 30) Try.func40 (fun c _ => LoopsOK.none (fun _ _ => rfl) c) h0
        exact ⟨h1, h2.fin he⟩
      · cases hs
noncomputable def vev43_0 (a : Int) (b : Int) (c : Int) (d : Int) (id : Int) : Bool := a == id
theorem ev43 (a : Int) (b : Int) (c : Int) (d : Int) (id : Int) : evFin (cfg Try.prog tab 100000 (gk k40 30) noLsp 43 ([.var [.int .i64 id]] : List Blk).length Try.f43.ntmps) ([.var [.int .i64 id]] : List Blk).length Try.f43.resultTypes.toList Try.f43 [.agg [.int .i64 a, .int .i64 b, .int .i64 c, .int .i64 d], .hp 0 0] [.var [.int .i64 id]] = some (true, AV.bool (vev43_0 a b c d id), [Blk.var [AV.int IntKind.i64 id]]) := by kernel_rfl
-- spec true ;; (true, AV.bool (vev43_0 a b c d id), [Blk.var [AV.int IntKind.i64 id]])
noncomputable def sp43 : List AV → List Blk → Option (Bool × AV × List Blk)
  | [.agg [.int .i64 a, .int .i64 b, .int .i64 c, .int .i64 d], .hp 0 0], [.var [.int .i64 id]] => spW (true) (some ((true, AV.bool (vev43_0 a b c d id), [Blk.var [AV.int IntKind.i64 id]])))
  | _, _ => none
noncomputable def k43 : Gam := fun f T C => match Nat.beq f 43 with
  | true => (sp43 T C).or (k40 f T C)
  | false => k40 f T C
theorem k43_ok : GamOK Try.prog k43 := by
  intro f T C r outs h
  unfold k43 at h
  cases hf : Nat.beq f 43 with
  | false => rw [hf] at h; exact k40_ok f T C r outs h
  | true =>
    have hf' := Nat.eq_of_beq_eq_true hf
    subst hf'
    rw [hf] at h
    dsimp only at h
    cases hs : sp43 T C with
    | none => rw [hs] at h; exact k40_ok _ T C r outs h
    | some x =>
      rw [hs] at h
      have hx : x = (true, r, outs) := by simpa using h
      subst hx
      unfold sp43 at hs
      split at hs
      · rename_i a b c d id
        obtain ⟨hb, rfl, rfl⟩ := spT_inv hs
        have he := ev43 a b c d id
        obtain ⟨r0, o0, h0, he⟩ := evFin_inv he
        obtain ⟨h1, h2⟩ := fn_ok mixed plain (gk_ok k40_ok 30) Try.func43 (fun c _ => LoopsOK.none (fun _ _ => rfl) c) h0
        exact ⟨h1, h2.fin he⟩
      · cases hs
noncomputable def vev35_0 (a : Int) (b : Int) (c : Int) (d : Int) (l : Int) (tk : Tk) (es : List (List AV)) : Bool := decide (d ≥ l)
theorem ev35 (a : Int) (b : Int) (c : Int) (d : Int) (l : Int) (tk : Tk) (es : List (List AV)) : evFin (cfg Try.prog tab 100000 (gk k43 30) noLsp 35 ([.var [.int .i64 l, .sl tk [.int .i64, .int .i64, .int .i64, .int .i64] es]] : List Blk).length Try.f35.ntmps) ([.var [.int .i64 l, .sl tk [.int .i64, .int .i64, .int .i64, .int .i64] es]] : List Blk).length Try.f35.resultTypes.toList Try.f35 [.agg [.int .i64 a, .int .i64 b, .int .i64 c, .int .i64 d], .hp 0 0] [.var [.int .i64 l, .sl tk [.int .i64, .int .i64, .int .i64, .int .i64] es]] = some (true, AV.bool (vev35_0 a b c d l tk es), [Blk.var [AV.int IntKind.i64 l, AV.sl tk [Kd.int IntKind.i64, Kd.int IntKind.i64, Kd.int IntKind.i64, Kd.int IntKind.i64] es]]) := by kernel_rfl
-- spec true ;; (true, AV.bool (vev35_0 a b c d l tk es), [Blk.var [AV.int IntKind.i64 l, AV.sl tk [Kd.int IntKind.i64, Kd.int IntKind.i64, Kd.int IntKind.i64, Kd.int IntKind.i64] es]])
noncomputable def sp35 : List AV → List Blk → Option (Bool × AV × List Blk)
  | [.agg [.int .i64 a, .int .i64 b, .int .i64 c, .int .i64 d], .hp 0 0], [.var [.int .i64 l, .sl tk [.int .i64, .int .i64, .int .i64, .int .i64] es]] => spW (true) (some ((true, AV.bool (vev35_0 a b c d l tk es), [Blk.var [AV.int IntKind.i64 l, AV.sl tk [Kd.int IntKind.i64, Kd.int IntKind.i64, Kd.int IntKind.i64, Kd.int IntKind.i64] es]])))
  | _, _ => none
noncomputable def k35 : Gam := fun f T C => match Nat.beq f 35 with
  | true => (sp35 T C).or (k43 f T C)
  | false => k43 f T C
theorem k35_ok : GamOK Try.prog k35 := by
  intro f T C r outs h
  unfold k35 at h
  cases hf : Nat.beq f 35 with
  | false => rw [hf] at h; exact k43_ok f T C r outs h
  | true =>
    have hf' := Nat.eq_of_beq_eq_true hf
    subst hf'
    rw [hf] at h
    dsimp only at h
    cases hs : sp35 T C with
    | none => rw [hs] at h; exact k43_ok _ T C r outs h
    | some x =>
      rw [hs] at h
      have hx : x = (true, r, outs) := by simpa using h
      subst hx
      unfold sp35 at hs
      split at hs
      · rename_i a b c d l tk es
        obtain ⟨hb, rfl, rfl⟩ := spT_inv hs
        have he := ev35 a b c d l tk es
        obtain ⟨r0, o0, h0, he⟩ := evFin_inv he
        obtain ⟨h1, h2⟩ := fn_ok mixed plain (gk_ok k43_ok 30) Try.func35 (fun c _ => LoopsOK.none (fun _ _ => rfl) c) h0
        exact ⟨h1, h2.fin he⟩
      · cases hs
noncomputable def vev38_0 (a : Int) (b : Int) (c : Int) (d : Int) (a2 : Int) (b2 : Int) (c2 : Int) (d2 : Int) : Int := IntKind.i64.wrap (b - b2)
theorem ev38 (a : Int) (b : Int) (c : Int) (d : Int) (a2 : Int) (b2 : Int) (c2 : Int) (d2 : Int) : evFin (cfg Try.prog tab 100000 (gk k35 30) noLsp 38 ([] : List Blk).length Try.f38.ntmps) ([] : List Blk).length Try.f38.resultTypes.toList Try.f38 [.agg [.int .i64 a, .int .i64 b, .int .i64 c, .int .i64 d], .agg [.int .i64 a2, .int .i64 b2, .int .i64 c2, .int .i64 d2]] [] = some (true, AV.int IntKind.i64 (vev38_0 a b c d a2 b2 c2 d2), []) := by kernel_rfl
-- spec true ;; (true, AV.int IntKind.i64 (vev38_0 a b c d a2 b2 c2 d2), [])
noncomputable def sp38 : List AV → List Blk → Option (Bool × AV × List Blk)
  | [.agg [.int .i64 a, .int .i64 b, .int .i64 c, .int .i64 d], .agg [.int .i64 a2, .int .i64 b2, .int .i64 c2, .int .i64 d2]], [] => spW (true) (some ((true, AV.int IntKind.i64 (vev38_0 a b c d a2 b2 c2 d2), [])))
  | _, _ => none
noncomputable def k38 : Gam := fun f T C => match Nat.beq f 38 with
  | true => (sp38 T C).or (k35 f T C)
  | false => k35 f T C
theorem k38_ok : GamOK Try.prog k38 := by
  intro f T C r outs h
  unfold k38 at h
  cases hf : Nat.beq f 38 with
  | false => rw [hf] at h; exact k35_ok f T C r outs h
  | true =>
    have hf' := Nat.eq_of_beq_eq_true hf
    subst hf'
    rw [hf] at h
    dsimp only at h
    cases hs : sp38 T C with
    | none => rw [hs] at h; exact k35_ok _ T C r outs h
    | some x =>
      rw [hs] at h
      have hx : x = (true, r, outs) := by simpa using h
      subst hx
      unfold sp38 at hs
      split at hs
      · rename_i a b c d a2 b2 c2 d2
        obtain ⟨hb, rfl, rfl⟩ := spT_inv hs
        have he := ev38 a b c d a2 b2 c2 d2
        obtain ⟨r0, o0, h0, he⟩ := evFin_inv he
        obtain ⟨h1, h2⟩ := fn_ok mixed plain (gk_ok k35_ok 30) Try.func38 (fun c _ => LoopsOK.none (fun _ _ => rfl) c) h0
        exact ⟨h1, h2.fin he⟩
      · cases hs
noncomputable def go36a_2 (t0k : Tk) (t0 : List (List AV)) (t7 : Int) (t8 : Int) (b0_0 : Int) : Bool := bif decide (t8 < t7) then bif decide ((0 : Int) ≤ t8) && decide (t8 < (↑t0.length : Int)) then bif vev43_0 (intOf ((t0.getD t8.toNat []).getD (0 : Nat) AV.junk)) (intOf ((t0.getD t8.toNat []).getD ((0 : Nat) + (1 : Nat)) AV.junk)) (intOf ((t0.getD t8.toNat []).getD ((0 : Nat) + (1 : Nat) + (1 : Nat)) AV.junk)) (intOf ((t0.getD t8.toNat []).getD ((0 : Nat) + (1 : Nat) + (1 : Nat) + (1 : Nat)) AV.junk)) b0_0 then false else true else false else false
noncomputable def nx36a_2_3 (t0k : Tk) (t0 : List (List AV)) (t7 : Int) (t8 : Int) (b0_0 : Int) : Int := IntKind.i64.wrap (t8 + (1 : Int))
noncomputable def xc36a_2_0 (t0k : Tk) (t0 : List (List AV)) (t7 : Int) (t8 : Int) (b0_0 : Int) : Bool := bif decide (t8 < t7) then bif decide ((0 : Int) ≤ t8) && decide (t8 < (↑t0.length : Int)) then vev43_0 (intOf ((t0.getD t8.toNat []).getD (0 : Nat) AV.junk)) (intOf ((t0.getD t8.toNat []).getD ((0 : Nat) + (1 : Nat)) AV.junk)) (intOf ((t0.getD t8.toNat []).getD ((0 : Nat) + (1 : Nat) + (1 : Nat)) AV.junk)) (intOf ((t0.getD t8.toNat []).getD ((0 : Nat) + (1 : Nat) + (1 : Nat) + (1 : Nat)) AV.junk)) b0_0 else false else false
noncomputable def xc36a_2_1 (t0k : Tk) (t0 : List (List AV)) (t7 : Int) (t8 : Int) (b0_0 : Int) : Bool := bif decide (t8 < t7) then false else true
theorem rd36a_2 (rest : Lsp) (t0k : Tk) (t0 : List (List AV)) (t7 : Int) (t8 : Int) (b0_0 : Int) : roundV (cfg Try.prog tab 100000 (gk k38 30) rest 36 1 Try.f36.ntmps) (loopAt Try.f36 2) [0, 1, 7, 8] [0] [4] [0] [AV.sl t0k [Kd.int IntKind.i64, Kd.int IntKind.i64, Kd.int IntKind.i64, Kd.int IntKind.i64] t0, AV.fn (nat_lit 43) [AV.hp (nat_lit 0) (nat_lit 0)], AV.int IntKind.i64 t7, AV.int IntKind.i64 t8] [Blk.var [AV.int IntKind.i64 b0_0]] = bif go36a_2 t0k t0 t7 t8 b0_0 then some (Ex.norm, [AV.sl t0k [Kd.int IntKind.i64, Kd.int IntKind.i64, Kd.int IntKind.i64, Kd.int IntKind.i64] t0, AV.fn (nat_lit 43) [AV.hp (nat_lit 0) (nat_lit 0)], AV.int IntKind.i64 t7, AV.int IntKind.i64 (nx36a_2_3 t0k t0 t7 t8 b0_0)], [Blk.var [AV.int IntKind.i64 b0_0]]) else bif xc36a_2_0 t0k t0 t7 t8 b0_0 then some (Ex.ret, [AV.int IntKind.i64 t8], [Blk.var [AV.int IntKind.i64 b0_0]]) else bif xc36a_2_1 t0k t0 t7 t8 b0_0 then some (Ex.exit (nat_lit 0), [AV.junk], [Blk.var [AV.int IntKind.i64 b0_0]]) else none := by
  have h : roundV (cfg Try.prog tab 100000 (gk k38 30) rest 36 1 Try.f36.ntmps) (loopAt Try.f36 2) [0, 1, 7, 8] [0] [4] [0] [AV.sl t0k [Kd.int IntKind.i64, Kd.int IntKind.i64, Kd.int IntKind.i64, Kd.int IntKind.i64] t0, AV.fn (nat_lit 43) [AV.hp (nat_lit 0) (nat_lit 0)], AV.int IntKind.i64 t7, AV.int IntKind.i64 t8] [Blk.var [AV.int IntKind.i64 b0_0]] = bif decide (t8 < t7) then bif decide ((0 : Int) ≤ t8) && decide (t8 < (↑t0.length : Int)) then bif vev43_0 (intOf ((t0.getD t8.toNat []).getD (0 : Nat) AV.junk)) (intOf ((t0.getD t8.toNat []).getD ((0 : Nat) + (1 : Nat)) AV.junk)) (intOf ((t0.getD t8.toNat []).getD ((0 : Nat) + (1 : Nat) + (1 : Nat)) AV.junk)) (intOf ((t0.getD t8.toNat []).getD ((0 : Nat) + (1 : Nat) + (1 : Nat) + (1 : Nat)) AV.junk)) b0_0 then some (Ex.ret, [AV.int IntKind.i64 t8], [Blk.var [AV.int IntKind.i64 b0_0]]) else some (Ex.norm, [AV.sl t0k [Kd.int IntKind.i64, Kd.int IntKind.i64, Kd.int IntKind.i64, Kd.int IntKind.i64] t0, AV.fn (nat_lit 43) [AV.hp (nat_lit 0) (nat_lit 0)], AV.int IntKind.i64 t7, AV.int IntKind.i64 (IntKind.i64.wrap (t8 + (1 : Int)))], [Blk.var [AV.int IntKind.i64 b0_0]]) else none else some (Ex.exit (nat_lit 0), [AV.junk], [Blk.var [AV.int IntKind.i64 b0_0]]) := by kernel_rfl
  rw [h]
  clear h
  unfold go36a_2 nx36a_2_3 xc36a_2_0 xc36a_2_1
  generalize (vev43_0 (intOf ((t0.getD t8.toNat []).getD (0 : Nat) AV.junk)) (intOf ((t0.getD t8.toNat []).getD ((0 : Nat) + (1 : Nat)) AV.junk)) (intOf ((t0.getD t8.toNat []).getD ((0 : Nat) + (1 : Nat) + (1 : Nat)) AV.junk)) (intOf ((t0.getD t8.toNat []).getD ((0 : Nat) + (1 : Nat) + (1 : Nat) + (1 : Nat)) AV.junk)) b0_0) = c0
  generalize (decide ((0 : Int) ≤ t8) && decide (t8 < (↑t0.length : Int))) = c1
  generalize (decide (t8 < t7)) = c2
  cases c2
  · skip
    rfl
  · skip
    cases c1
    · skip
      rfl
    · skip
      cases c0
      · skip
        rfl
      · skip
        rfl
abbrev pl36a_2 : Type := Tk × (List (List AV)) × Int × Int
abbrev sl36a_2 : Type := Int
noncomputable def vt36a_2 (a : pl36a_2 × sl36a_2) : List AV := [AV.sl a.1.1 [Kd.int IntKind.i64, Kd.int IntKind.i64, Kd.int IntKind.i64, Kd.int IntKind.i64] a.1.2.1, AV.fn (nat_lit 43) [AV.hp (nat_lit 0) (nat_lit 0)], AV.int IntKind.i64 a.1.2.2.1, AV.int IntKind.i64 a.2]
noncomputable def vc36a_2 (a : pl36a_2 × sl36a_2) : List Blk := [Blk.var [AV.int IntKind.i64 a.1.2.2.2]]
noncomputable def de36a_2 (vt : List AV) (vc : List Blk) : Option (pl36a_2 × sl36a_2) :=
  match vt with
  | [qa0, qa1, qa2, qa3] => (match vc with
  | [qb0] => (match qa0 with
  | AV.sl t0k [Kd.int IntKind.i64, Kd.int IntKind.i64, Kd.int IntKind.i64, Kd.int IntKind.i64] t0 => (match qa1 with
  | AV.fn (43) [AV.hp (0) (0)] => (match qa2 with
  | AV.int IntKind.i64 t7 => (match qa3 with
  | AV.int IntKind.i64 t8 => (match qb0 with
  | Blk.var [AV.int IntKind.i64 b0_0] => (some ((t0k, t0, t7, b0_0), t8))
  | _ => none)
  | _ => none)
  | _ => none)
  | _ => none)
  | _ => none)
  | _ => none)
  | _ => none
theorem de36a_2_ok (vt : List AV) (vc : List Blk) (a : pl36a_2 × sl36a_2) (h : de36a_2 vt vc = some a) : vt = vt36a_2 a ∧ vc = vc36a_2 a := by
  unfold de36a_2 at h
  split at h
  rotate_left
  · cases h
  split at h
  rotate_left
  · cases h
  split at h
  rotate_left
  · cases h
  split at h
  rotate_left
  · cases h
  split at h
  rotate_left
  · cases h
  split at h
  rotate_left
  · cases h
  split at h
  rotate_left
  · cases h
  injection h with h
  subst h
  exact ⟨rfl, rfl⟩
noncomputable def g36a_2 (p : pl36a_2) (s : sl36a_2) : Bool := go36a_2 p.1 p.2.1 p.2.2.1 s p.2.2.2
noncomputable def n36a_2 (p : pl36a_2) (s : sl36a_2) : sl36a_2 := nx36a_2_3 p.1 p.2.1 p.2.2.1 s p.2.2.2
noncomputable def y36a_2 (p : pl36a_2) (s : sl36a_2) : List (Bool × Out) := [(xc36a_2_0 p.1 p.2.1 p.2.2.1 s p.2.2.2, (Ex.ret, [AV.int IntKind.i64 s], [Blk.var [AV.int IntKind.i64 p.2.2.2]]))]
noncomputable def z36a_2 (p : pl36a_2) (s : sl36a_2) : Bool := xc36a_2_1 p.1 p.2.1 p.2.2.1 s p.2.2.2
noncomputable def d36a_2 (p : pl36a_2) (s : sl36a_2) : Out := (Ex.exit (nat_lit 0), [AV.junk], [Blk.var [AV.int IntKind.i64 p.2.2.2]])
noncomputable def ls36a_2 : St → Option (Bool × List (Bool × Ex × St) × Ex × St) := lspOf [0, 1, 7, 8] [0] [4] [0] Try.f36.ntmps (1 + tab.nid 36) de36a_2 (spI g36a_2 n36a_2 y36a_2 z36a_2 d36a_2)
theorem lo36a_2 (rest : Lsp) : LoopOK1 (cfg Try.prog tab 100000 (gk k38 30) (selL 2 ls36a_2 rest) 36 1 Try.f36.ntmps) (loopAt Try.f36 2) := LoopOK1.iter (i := 2) (by kernel_rfl) [0, 1, 7, 8] [0] [4] [0] vt36a_2 vc36a_2 de36a_2 g36a_2 n36a_2 y36a_2 z36a_2 d36a_2 (fun _ => rfl) de36a_2_ok (fun p s => rd36a_2 (selL 2 ls36a_2 rest) (p.1) (p.2.1) (p.2.2.1) s (p.2.2.2)) (fun _ _ => rfl)
noncomputable def lsp36a : Lsp := (selL 2 ls36a_2 noLsp)
theorem loops36a : ∀ c, Try.f36.body = some c → LoopsOK (cfg Try.prog tab 100000 (gk k38 30) lsp36a 36 1 Try.f36.ntmps) c := loops_of [2] (by kernel_rfl) (by kernel_rfl) (fun i hi => by
  simp only [List.mem_cons, List.not_mem_nil, or_false] at hi
  subst hi
  · exact lo36a_2 noLsp)
noncomputable def rev36a_0 (tk : Tk) (es : List (List AV)) (id : Int) : sl36a_2 := finL (g36a_2 (tk, es, (↑es.length : Int), id)) (n36a_2 (tk, es, (↑es.length : Int), id)) (0 : Int)
noncomputable def vev36a_0 (tk : Tk) (es : List (List AV)) (id : Int) : sl36a_2 := bif xc36a_2_0 tk es (↑es.length : Int) (rev36a_0 tk es id) id then rev36a_0 tk es id else (-1 : Int)
noncomputable def vev36a_1 (tk : Tk) (es : List (List AV)) (id : Int) : Bool := bif (spI g36a_2 n36a_2 y36a_2 z36a_2 d36a_2 ((tk, es, (↑es.length : Int), id), (0 : Int))).fst then true else false
theorem ev36a (tk : Tk) (es : List (List AV)) (id : Int) : evFin (cfg Try.prog tab 100000 (gk k38 30) lsp36a 36 ([.var [.int .i64 id]] : List Blk).length Try.f36.ntmps) ([.var [.int .i64 id]] : List Blk).length Try.f36.resultTypes.toList Try.f36 [.sl tk [.int .i64, .int .i64, .int .i64, .int .i64] es, .fn 43 [.hp 0 0]] [.var [.int .i64 id]] = bif vev36a_1 tk es id then some (true, AV.int IntKind.i64 (vev36a_0 tk es id), [Blk.var [AV.int IntKind.i64 id]]) else none := by
  have h : evFin (cfg Try.prog tab 100000 (gk k38 30) lsp36a 36 ([.var [.int .i64 id]] : List Blk).length Try.f36.ntmps) ([.var [.int .i64 id]] : List Blk).length Try.f36.resultTypes.toList Try.f36 [.sl tk [.int .i64, .int .i64, .int .i64, .int .i64] es, .fn 43 [.hp 0 0]] [.var [.int .i64 id]] = bif (spI g36a_2 n36a_2 y36a_2 z36a_2 d36a_2 ((tk, es, (↑es.length : Int), id), (0 : Int))).fst then bif xc36a_2_0 tk es (↑es.length : Int) (rev36a_0 tk es id) id then some (true, AV.int IntKind.i64 (rev36a_0 tk es id), [Blk.var [AV.int IntKind.i64 id]]) else some (true, AV.int IntKind.i64 (-1 : Int), [Blk.var [AV.int IntKind.i64 id]]) else none := by kernel_rfl
  rw [h]
  clear h
  unfold vev36a_0 vev36a_1
  generalize ((spI g36a_2 n36a_2 y36a_2 z36a_2 d36a_2 ((tk, es, (↑es.length : Int), id), (0 : Int))).fst) = c0
  generalize (xc36a_2_0 tk es (↑es.length : Int) (rev36a_0 tk es id) id) = c1
  cases c0
  · skip
    rfl
  · skip
    cases c1
    · skip
      rfl
    · skip
      rfl
-- spec vev36a_1 tk es id ;; (true, AV.int IntKind.i64 (vev36a_0 tk es id), [Blk.var [AV.int IntKind.i64 id]])
noncomputable def sp36a : List AV → List Blk → Option (Bool × AV × List Blk)
  | [.sl tk [.int .i64, .int .i64, .int .i64, .int .i64] es, .fn 43 [.hp 0 0]], [.var [.int .i64 id]] => spW (vev36a_1 tk es id) (some ((true, AV.int IntKind.i64 (vev36a_0 tk es id), [Blk.var [AV.int IntKind.i64 id]])))
  | _, _ => none
noncomputable def k36a : Gam := fun f T C => match Nat.beq f 36 with
  | true => (sp36a T C).or (k38 f T C)
  | false => k38 f T C
theorem k36a_ok : GamOK Try.prog k36a := by
  intro f T C r outs h
  unfold k36a at h
  cases hf : Nat.beq f 36 with
  | false => rw [hf] at h; exact k38_ok f T C r outs h
  | true =>
    have hf' := Nat.eq_of_beq_eq_true hf
    subst hf'
    rw [hf] at h
    dsimp only at h
    cases hs : sp36a T C with
    | none => rw [hs] at h; exact k38_ok _ T C r outs h
    | some x =>
      rw [hs] at h
      have hx : x = (true, r, outs) := by simpa using h
      subst hx
      unfold sp36a at hs
      split at hs
      · rename_i tk es id
        obtain ⟨hb, rfl, rfl⟩ := spT_inv hs
        have he := ev36a tk es id
        rw [hb, cond_true] at he
        obtain ⟨r0, o0, h0, he⟩ := evFin_inv he
        obtain ⟨h1, h2⟩ := fn_ok mixed plain (gk_ok k38_ok 30) Try.func36 loops36a h0
        exact ⟨h1, h2.fin he⟩
      · cases hs
noncomputable def go36b_2 (t0k : Tk) (t0 : List (List AV)) (t7 : Int) (t8 : Int) (b0_0 : Int) (b0_1k : Tk) (b0_1 : List (List AV)) : Bool := bif decide (t8 < t7) then bif decide ((0 : Int) ≤ t8) && decide (t8 < (↑t0.length : Int)) then bif vev35_0 (intOf ((t0.getD t8.toNat []).getD (0 : Nat) AV.junk)) (intOf ((t0.getD t8.toNat []).getD ((0 : Nat) + (1 : Nat)) AV.junk)) (intOf ((t0.getD t8.toNat []).getD ((0 : Nat) + (1 : Nat) + (1 : Nat)) AV.junk)) (intOf ((t0.getD t8.toNat []).getD ((0 : Nat) + (1 : Nat) + (1 : Nat) + (1 : Nat)) AV.junk)) b0_0 b0_1k b0_1 then false else true else false else false
noncomputable def nx36b_2_3 (t0k : Tk) (t0 : List (List AV)) (t7 : Int) (t8 : Int) (b0_0 : Int) (b0_1k : Tk) (b0_1 : List (List AV)) : Int := IntKind.i64.wrap (t8 + (1 : Int))
noncomputable def xc36b_2_0 (t0k : Tk) (t0 : List (List AV)) (t7 : Int) (t8 : Int) (b0_0 : Int) (b0_1k : Tk) (b0_1 : List (List AV)) : Bool := bif decide (t8 < t7) then bif decide ((0 : Int) ≤ t8) && decide (t8 < (↑t0.length : Int)) then vev35_0 (intOf ((t0.getD t8.toNat []).getD (0 : Nat) AV.junk)) (intOf ((t0.getD t8.toNat []).getD ((0 : Nat) + (1 : Nat)) AV.junk)) (intOf ((t0.getD t8.toNat []).getD ((0 : Nat) + (1 : Nat) + (1 : Nat)) AV.junk)) (intOf ((t0.getD t8.toNat []).getD ((0 : Nat) + (1 : Nat) + (1 : Nat) + (1 : Nat)) AV.junk)) b0_0 b0_1k b0_1 else false else false
noncomputable def xc36b_2_1 (t0k : Tk) (t0 : List (List AV)) (t7 : Int) (t8 : Int) (b0_0 : Int) (b0_1k : Tk) (b0_1 : List (List AV)) : Bool := bif decide (t8 < t7) then false else true
theorem rd36b_2 (rest : Lsp) (t0k : Tk) (t0 : List (List AV)) (t7 : Int) (t8 : Int) (b0_0 : Int) (b0_1k : Tk) (b0_1 : List (List AV)) : roundV (cfg Try.prog tab 100000 (gk k36a 30) rest 36 1 Try.f36.ntmps) (loopAt Try.f36 2) [0, 1, 7, 8] [0] [4] [0] [AV.sl t0k [Kd.int IntKind.i64, Kd.int IntKind.i64, Kd.int IntKind.i64, Kd.int IntKind.i64] t0, AV.fn (nat_lit 35) [AV.hp (nat_lit 0) (nat_lit 0)], AV.int IntKind.i64 t7, AV.int IntKind.i64 t8] [Blk.var [AV.int IntKind.i64 b0_0, AV.sl b0_1k [Kd.int IntKind.i64, Kd.int IntKind.i64, Kd.int IntKind.i64, Kd.int IntKind.i64] b0_1]] = bif go36b_2 t0k t0 t7 t8 b0_0 b0_1k b0_1 then some (Ex.norm, [AV.sl t0k [Kd.int IntKind.i64, Kd.int IntKind.i64, Kd.int IntKind.i64, Kd.int IntKind.i64] t0, AV.fn (nat_lit 35) [AV.hp (nat_lit 0) (nat_lit 0)], AV.int IntKind.i64 t7, AV.int IntKind.i64 (nx36b_2_3 t0k t0 t7 t8 b0_0 b0_1k b0_1)], [Blk.var [AV.int IntKind.i64 b0_0, AV.sl b0_1k [Kd.int IntKind.i64, Kd.int IntKind.i64, Kd.int IntKind.i64, Kd.int IntKind.i64] b0_1]]) else bif xc36b_2_0 t0k t0 t7 t8 b0_0 b0_1k b0_1 then some (Ex.ret, [AV.int IntKind.i64 t8], [Blk.var [AV.int IntKind.i64 b0_0, AV.sl b0_1k [Kd.int IntKind.i64, Kd.int IntKind.i64, Kd.int IntKind.i64, Kd.int IntKind.i64] b0_1]]) else bif xc36b_2_1 t0k t0 t7 t8 b0_0 b0_1k b0_1 then some (Ex.exit (nat_lit 0), [AV.junk], [Blk.var [AV.int IntKind.i64 b0_0, AV.sl b0_1k [Kd.int IntKind.i64, Kd.int IntKind.i64, Kd.int IntKind.i64, Kd.int IntKind.i64] b0_1]]) else none := by
  have h : roundV (cfg Try.prog tab 100000 (gk k36a 30) rest 36 1 Try.f36.ntmps) (loopAt Try.f36 2) [0, 1, 7, 8] [0] [4] [0] [AV.sl t0k [Kd.int IntKind.i64, Kd.int IntKind.i64, Kd.int IntKind.i64, Kd.int IntKind.i64] t0, AV.fn (nat_lit 35) [AV.hp (nat_lit 0) (nat_lit 0)], AV.int IntKind.i64 t7, AV.int IntKind.i64 t8] [Blk.var [AV.int IntKind.i64 b0_0, AV.sl b0_1k [Kd.int IntKind.i64, Kd.int IntKind.i64, Kd.int IntKind.i64, Kd.int IntKind.i64] b0_1]] = bif decide (t8 < t7) then bif decide ((0 : Int) ≤ t8) && decide (t8 < (↑t0.length : Int)) then bif vev35_0 (intOf ((t0.getD t8.toNat []).getD (0 : Nat) AV.junk)) (intOf ((t0.getD t8.toNat []).getD ((0 : Nat) + (1 : Nat)) AV.junk)) (intOf ((t0.getD t8.toNat []).getD ((0 : Nat) + (1 : Nat) + (1 : Nat)) AV.junk)) (intOf ((t0.getD t8.toNat []).getD ((0 : Nat) + (1 : Nat) + (1 : Nat) + (1 : Nat)) AV.junk)) b0_0 b0_1k b0_1 then some (Ex.ret, [AV.int IntKind.i64 t8], [Blk.var [AV.int IntKind.i64 b0_0, AV.sl b0_1k [Kd.int IntKind.i64, Kd.int IntKind.i64, Kd.int IntKind.i64, Kd.int IntKind.i64] b0_1]]) else some (Ex.norm, [AV.sl t0k [Kd.int IntKind.i64, Kd.int IntKind.i64, Kd.int IntKind.i64, Kd.int IntKind.i64] t0, AV.fn (nat_lit 35) [AV.hp (nat_lit 0) (nat_lit 0)], AV.int IntKind.i64 t7, AV.int IntKind.i64 (IntKind.i64.wrap (t8 + (1 : Int)))], [Blk.var [AV.int IntKind.i64 b0_0, AV.sl b0_1k [Kd.int IntKind.i64, Kd.int IntKind.i64, Kd.int IntKind.i64, Kd.int IntKind.i64] b0_1]]) else none else some (Ex.exit (nat_lit 0), [AV.junk], [Blk.var [AV.int IntKind.i64 b0_0, AV.sl b0_1k [Kd.int IntKind.i64, Kd.int IntKind.i64, Kd.int IntKind.i64, Kd.int IntKind.i64] b0_1]]) := by kernel_rfl
  rw [h]
  clear h
  unfold go36b_2 nx36b_2_3 xc36b_2_0 xc36b_2_1
  generalize (vev35_0 (intOf ((t0.getD t8.toNat []).getD (0 : Nat) AV.junk)) (intOf ((t0.getD t8.toNat []).getD ((0 : Nat) + (1 : Nat)) AV.junk)) (intOf ((t0.getD t8.toNat []).getD ((0 : Nat) + (1 : Nat) + (1 : Nat)) AV.junk)) (intOf ((t0.getD t8.toNat []).getD ((0 : Nat) + (1 : Nat) + (1 : Nat) + (1 : Nat)) AV.junk)) b0_0 b0_1k b0_1) = c0
  generalize (decide ((0 : Int) ≤ t8) && decide (t8 < (↑t0.length : Int))) = c1
  generalize (decide (t8 < t7)) = c2
  cases c2
  · skip
    rfl
  · skip
    cases c1
    · skip
      rfl
    · skip
      cases c0
      · skip
        rfl
      · skip
        rfl
abbrev pl36b_2 : Type := Tk × (List (List AV)) × Int × Int × Tk × (List (List AV))
abbrev sl36b_2 : Type := Int
noncomputable def vt36b_2 (a : pl36b_2 × sl36b_2) : List AV := [AV.sl a.1.1 [Kd.int IntKind.i64, Kd.int IntKind.i64, Kd.int IntKind.i64, Kd.int IntKind.i64] a.1.2.1, AV.fn (nat_lit 35) [AV.hp (nat_lit 0) (nat_lit 0)], AV.int IntKind.i64 a.1.2.2.1, AV.int IntKind.i64 a.2]
noncomputable def vc36b_2 (a : pl36b_2 × sl36b_2) : List Blk := [Blk.var [AV.int IntKind.i64 a.1.2.2.2.1, AV.sl a.1.2.2.2.2.1 [Kd.int IntKind.i64, Kd.int IntKind.i64, Kd.int IntKind.i64, Kd.int IntKind.i64] a.1.2.2.2.2.2]]
noncomputable def de36b_2 (vt : List AV) (vc : List Blk) : Option (pl36b_2 × sl36b_2) :=
  match vt with
  | [qa0, qa1, qa2, qa3] => (match vc with
  | [qb0] => (match qa0 with
  | AV.sl t0k [Kd.int IntKind.i64, Kd.int IntKind.i64, Kd.int IntKind.i64, Kd.int IntKind.i64] t0 => (match qa1 with
  | AV.fn (35) [AV.hp (0) (0)] => (match qa2 with
  | AV.int IntKind.i64 t7 => (match qa3 with
  | AV.int IntKind.i64 t8 => (match qb0 with
  | Blk.var [AV.int IntKind.i64 b0_0, AV.sl b0_1k [Kd.int IntKind.i64, Kd.int IntKind.i64, Kd.int IntKind.i64, Kd.int IntKind.i64] b0_1] => (some ((t0k, t0, t7, b0_0, b0_1k, b0_1), t8))
  | _ => none)
  | _ => none)
  | _ => none)
  | _ => none)
  | _ => none)
  | _ => none)
  | _ => none
theorem de36b_2_ok (vt : List AV) (vc : List Blk) (a : pl36b_2 × sl36b_2) (h : de36b_2 vt vc = some a) : vt = vt36b_2 a ∧ vc = vc36b_2 a := by
  unfold de36b_2 at h
  split at h
  rotate_left
  · cases h
  split at h
  rotate_left
  · cases h
  split at h
  rotate_left
  · cases h
  split at h
  rotate_left
  · cases h
  split at h
  rotate_left
  · cases h
  split at h
  rotate_left
  · cases h
  split at h
  rotate_left
  · cases h
  injection h with h
  subst h
  exact ⟨rfl, rfl⟩
noncomputable def g36b_2 (p : pl36b_2) (s : sl36b_2) : Bool := go36b_2 p.1 p.2.1 p.2.2.1 s p.2.2.2.1 p.2.2.2.2.1 p.2.2.2.2.2
noncomputable def n36b_2 (p : pl36b_2) (s : sl36b_2) : sl36b_2 := nx36b_2_3 p.1 p.2.1 p.2.2.1 s p.2.2.2.1 p.2.2.2.2.1 p.2.2.2.2.2
noncomputable def y36b_2 (p : pl36b_2) (s : sl36b_2) : List (Bool × Out) := [(xc36b_2_0 p.1 p.2.1 p.2.2.1 s p.2.2.2.1 p.2.2.2.2.1 p.2.2.2.2.2, (Ex.ret, [AV.int IntKind.i64 s], [Blk.var [AV.int IntKind.i64 p.2.2.2.1, AV.sl p.2.2.2.2.1 [Kd.int IntKind.i64, Kd.int IntKind.i64, Kd.int IntKind.i64, Kd.int IntKind.i64] p.2.2.2.2.2]]))]
noncomputable def z36b_2 (p : pl36b_2) (s : sl36b_2) : Bool := xc36b_2_1 p.1 p.2.1 p.2.2.1 s p.2.2.2.1 p.2.2.2.2.1 p.2.2.2.2.2
noncomputable def d36b_2 (p : pl36b_2) (s : sl36b_2) : Out := (Ex.exit (nat_lit 0), [AV.junk], [Blk.var [AV.int IntKind.i64 p.2.2.2.1, AV.sl p.2.2.2.2.1 [Kd.int IntKind.i64, Kd.int IntKind.i64, Kd.int IntKind.i64, Kd.int IntKind.i64] p.2.2.2.2.2]])
noncomputable def ls36b_2 : St → Option (Bool × List (Bool × Ex × St) × Ex × St) := lspOf [0, 1, 7, 8] [0] [4] [0] Try.f36.ntmps (1 + tab.nid 36) de36b_2 (spI g36b_2 n36b_2 y36b_2 z36b_2 d36b_2)
theorem lo36b_2 (rest : Lsp) : LoopOK1 (cfg Try.prog tab 100000 (gk k36a 30) (selL 2 ls36b_2 rest) 36 1 Try.f36.ntmps) (loopAt Try.f36 2) := LoopOK1.iter (i := 2) (by kernel_rfl) [0, 1, 7, 8] [0] [4] [0] vt36b_2 vc36b_2 de36b_2 g36b_2 n36b_2 y36b_2 z36b_2 d36b_2 (fun _ => rfl) de36b_2_ok (fun p s => rd36b_2 (selL 2 ls36b_2 rest) (p.1) (p.2.1) (p.2.2.1) s (p.2.2.2.1) (p.2.2.2.2.1) (p.2.2.2.2.2)) (fun _ _ => rfl)
noncomputable def lsp36b : Lsp := (selL 2 ls36b_2 noLsp)
theorem loops36b : ∀ c, Try.f36.body = some c → LoopsOK (cfg Try.prog tab 100000 (gk k36a 30) lsp36b 36 1 Try.f36.ntmps) c := loops_of [2] (by kernel_rfl) (by kernel_rfl) (fun i hi => by
  simp only [List.mem_cons, List.not_mem_nil, or_false] at hi
  subst hi
  · exact lo36b_2 noLsp)
noncomputable def rev36b_0 (tk : Tk) (es : List (List AV)) (l : Int) (tk2 : Tk) (es2 : List (List AV)) : sl36b_2 := finL (g36b_2 (tk, es, (↑es.length : Int), l, tk2, es2)) (n36b_2 (tk, es, (↑es.length : Int), l, tk2, es2)) (0 : Int)
noncomputable def vev36b_0 (tk : Tk) (es : List (List AV)) (l : Int) (tk2 : Tk) (es2 : List (List AV)) : sl36b_2 := bif xc36b_2_0 tk es (↑es.length : Int) (rev36b_0 tk es l tk2 es2) l tk2 es2 then rev36b_0 tk es l tk2 es2 else (-1 : Int)
noncomputable def vev36b_1 (tk : Tk) (es : List (List AV)) (l : Int) (tk2 : Tk) (es2 : List (List AV)) : Bool := bif (spI g36b_2 n36b_2 y36b_2 z36b_2 d36b_2 ((tk, es, (↑es.length : Int), l, tk2, es2), (0 : Int))).fst then true else false
theorem ev36b (tk : Tk) (es : List (List AV)) (l : Int) (tk2 : Tk) (es2 : List (List AV)) : evFin (cfg Try.prog tab 100000 (gk k36a 30) lsp36b 36 ([.var [.int .i64 l, .sl tk2 [.int .i64, .int .i64, .int .i64, .int .i64] es2]] : List Blk).length Try.f36.ntmps) ([.var [.int .i64 l, .sl tk2 [.int .i64, .int .i64, .int .i64, .int .i64] es2]] : List Blk).length Try.f36.resultTypes.toList Try.f36 [.sl tk [.int .i64, .int .i64, .int .i64, .int .i64] es, .fn 35 [.hp 0 0]] [.var [.int .i64 l, .sl tk2 [.int .i64, .int .i64, .int .i64, .int .i64] es2]] = bif vev36b_1 tk es l tk2 es2 then some (true, AV.int IntKind.i64 (vev36b_0 tk es l tk2 es2), [Blk.var [AV.int IntKind.i64 l, AV.sl tk2 [Kd.int IntKind.i64, Kd.int IntKind.i64, Kd.int IntKind.i64, Kd.int IntKind.i64] es2]]) else none := by
  have h : evFin (cfg Try.prog tab 100000 (gk k36a 30) lsp36b 36 ([.var [.int .i64 l, .sl tk2 [.int .i64, .int .i64, .int .i64, .int .i64] es2]] : List Blk).length Try.f36.ntmps) ([.var [.int .i64 l, .sl tk2 [.int .i64, .int .i64, .int .i64, .int .i64] es2]] : List Blk).length Try.f36.resultTypes.toList Try.f36 [.sl tk [.int .i64, .int .i64, .int .i64, .int .i64] es, .fn 35 [.hp 0 0]] [.var [.int .i64 l, .sl tk2 [.int .i64, .int .i64, .int .i64, .int .i64] es2]] = bif (spI g36b_2 n36b_2 y36b_2 z36b_2 d36b_2 ((tk, es, (↑es.length : Int), l, tk2, es2), (0 : Int))).fst then bif xc36b_2_0 tk es (↑es.length : Int) (rev36b_0 tk es l tk2 es2) l tk2 es2 then some (true, AV.int IntKind.i64 (rev36b_0 tk es l tk2 es2), [Blk.var [AV.int IntKind.i64 l, AV.sl tk2 [Kd.int IntKind.i64, Kd.int IntKind.i64, Kd.int IntKind.i64, Kd.int IntKind.i64] es2]]) else some (true, AV.int IntKind.i64 (-1 : Int), [Blk.var [AV.int IntKind.i64 l, AV.sl tk2 [Kd.int IntKind.i64, Kd.int IntKind.i64, Kd.int IntKind.i64, Kd.int IntKind.i64] es2]]) else none := by kernel_rfl
  rw [h]
  clear h
  unfold vev36b_0 vev36b_1
  generalize ((spI g36b_2 n36b_2 y36b_2 z36b_2 d36b_2 ((tk, es, (↑es.length : Int), l, tk2, es2), (0 : Int))).fst) = c0
  generalize (xc36b_2_0 tk es (↑es.length : Int) (rev36b_0 tk es l tk2 es2) l tk2 es2) = c1
  cases c0
  · skip
    rfl
  · skip
    cases c1
    · skip
      rfl
    · skip
      rfl
-- spec vev36b_1 tk es l tk2 es2 ;; (true, AV.int IntKind.i64 (vev36b_0 tk es l tk2 es2), [Blk.var [AV.int IntKind.i64 l, AV.sl tk2 [Kd.int IntKind.i64, Kd.int IntKind.i64, Kd.int IntKind.i64, Kd.int IntKind.i64] es2]])
noncomputable def sp36b : List AV → List Blk → Option (Bool × AV × List Blk)
  | [.sl tk [.int .i64, .int .i64, .int .i64, .int .i64] es, .fn 35 [.hp 0 0]], [.var [.int .i64 l, .sl tk2 [.int .i64, .int .i64, .int .i64, .int .i64] es2]] => spW (vev36b_1 tk es l tk2 es2) (some ((true, AV.int IntKind.i64 (vev36b_0 tk es l tk2 es2), [Blk.var [AV.int IntKind.i64 l, AV.sl tk2 [Kd.int IntKind.i64, Kd.int IntKind.i64, Kd.int IntKind.i64, Kd.int IntKind.i64] es2]])))
  | _, _ => none
noncomputable def k36b : Gam := fun f T C => match Nat.beq f 36 with
  | true => (sp36b T C).or (k36a f T C)
  | false => k36a f T C
theorem k36b_ok : GamOK Try.prog k36b := by
  intro f T C r outs h
  unfold k36b at h
  cases hf : Nat.beq f 36 with
  | false => rw [hf] at h; exact k36a_ok f T C r outs h
  | true =>
    have hf' := Nat.eq_of_beq_eq_true hf
    subst hf'
    rw [hf] at h
    dsimp only at h
    cases hs : sp36b T C with
    | none => rw [hs] at h; exact k36a_ok _ T C r outs h
    | some x =>
      rw [hs] at h
      have hx : x = (true, r, outs) := by simpa using h
      subst hx
      unfold sp36b at hs
      split at hs
      · rename_i tk es l tk2 es2
        obtain ⟨hb, rfl, rfl⟩ := spT_inv hs
        have he := ev36b tk es l tk2 es2
        rw [hb, cond_true] at he
        obtain ⟨r0, o0, h0, he⟩ := evFin_inv he
        obtain ⟨h1, h2⟩ := fn_ok mixed plain (gk_ok k36a_ok 30) Try.func36 loops36b h0
        exact ⟨h1, h2.fin he⟩
      · cases hs
noncomputable def go36c_2 (t0k : Tk) (t0 : List (List AV)) (t7 : Int) (t8 : Int) : Bool := bif decide (t8 < t7) then bif decide ((0 : Int) ≤ t8) && decide (t8 < (↑t0.length : Int)) then bif !vev28_0 (intOf ((t0.getD t8.toNat []).getD (0 : Nat) AV.junk)) (intOf ((t0.getD t8.toNat []).getD ((0 : Nat) + (1 : Nat)) AV.junk)) (intOf ((t0.getD t8.toNat []).getD ((0 : Nat) + (1 : Nat) + (1 : Nat)) AV.junk)) (intOf ((t0.getD t8.toNat []).getD ((0 : Nat) + (1 : Nat) + (1 : Nat) + (1 : Nat)) AV.junk)) then false else true else false else false
noncomputable def nx36c_2_3 (t0k : Tk) (t0 : List (List AV)) (t7 : Int) (t8 : Int) : Int := IntKind.i64.wrap (t8 + (1 : Int))
noncomputable def xc36c_2_0 (t0k : Tk) (t0 : List (List AV)) (t7 : Int) (t8 : Int) : Bool := bif decide (t8 < t7) then bif decide ((0 : Int) ≤ t8) && decide (t8 < (↑t0.length : Int)) then !vev28_0 (intOf ((t0.getD t8.toNat []).getD (0 : Nat) AV.junk)) (intOf ((t0.getD t8.toNat []).getD ((0 : Nat) + (1 : Nat)) AV.junk)) (intOf ((t0.getD t8.toNat []).getD ((0 : Nat) + (1 : Nat) + (1 : Nat)) AV.junk)) (intOf ((t0.getD t8.toNat []).getD ((0 : Nat) + (1 : Nat) + (1 : Nat) + (1 : Nat)) AV.junk)) else false else false
noncomputable def xc36c_2_1 (t0k : Tk) (t0 : List (List AV)) (t7 : Int) (t8 : Int) : Bool := bif decide (t8 < t7) then false else true
theorem rd36c_2 (rest : Lsp) (t0k : Tk) (t0 : List (List AV)) (t7 : Int) (t8 : Int) : roundV (cfg Try.prog tab 100000 (gk k36b 30) rest 36 0 Try.f36.ntmps) (loopAt Try.f36 2) [0, 1, 7, 8] [] [4] [] [AV.sl t0k [Kd.int IntKind.i64, Kd.int IntKind.i64, Kd.int IntKind.i64, Kd.int IntKind.i64] t0, AV.fn (nat_lit 40) [], AV.int IntKind.i64 t7, AV.int IntKind.i64 t8] [] = bif go36c_2 t0k t0 t7 t8 then some (Ex.norm, [AV.sl t0k [Kd.int IntKind.i64, Kd.int IntKind.i64, Kd.int IntKind.i64, Kd.int IntKind.i64] t0, AV.fn (nat_lit 40) [], AV.int IntKind.i64 t7, AV.int IntKind.i64 (nx36c_2_3 t0k t0 t7 t8)], []) else bif xc36c_2_0 t0k t0 t7 t8 then some (Ex.ret, [AV.int IntKind.i64 t8], []) else bif xc36c_2_1 t0k t0 t7 t8 then some (Ex.exit (nat_lit 0), [AV.junk], []) else none := by
  have h : roundV (cfg Try.prog tab 100000 (gk k36b 30) rest 36 0 Try.f36.ntmps) (loopAt Try.f36 2) [0, 1, 7, 8] [] [4] [] [AV.sl t0k [Kd.int IntKind.i64, Kd.int IntKind.i64, Kd.int IntKind.i64, Kd.int IntKind.i64] t0, AV.fn (nat_lit 40) [], AV.int IntKind.i64 t7, AV.int IntKind.i64 t8] [] = bif decide (t8 < t7) then bif decide ((0 : Int) ≤ t8) && decide (t8 < (↑t0.length : Int)) then bif !vev28_0 (intOf ((t0.getD t8.toNat []).getD (0 : Nat) AV.junk)) (intOf ((t0.getD t8.toNat []).getD ((0 : Nat) + (1 : Nat)) AV.junk)) (intOf ((t0.getD t8.toNat []).getD ((0 : Nat) + (1 : Nat) + (1 : Nat)) AV.junk)) (intOf ((t0.getD t8.toNat []).getD ((0 : Nat) + (1 : Nat) + (1 : Nat) + (1 : Nat)) AV.junk)) then some (Ex.ret, [AV.int IntKind.i64 t8], []) else some (Ex.norm, [AV.sl t0k [Kd.int IntKind.i64, Kd.int IntKind.i64, Kd.int IntKind.i64, Kd.int IntKind.i64] t0, AV.fn (nat_lit 40) [], AV.int IntKind.i64 t7, AV.int IntKind.i64 (IntKind.i64.wrap (t8 + (1 : Int)))], []) else none else some (Ex.exit (nat_lit 0), [AV.junk], []) := by kernel_rfl
  rw [h]
  clear h
  unfold go36c_2 nx36c_2_3 xc36c_2_0 xc36c_2_1
  generalize (!vev28_0 (intOf ((t0.getD t8.toNat []).getD (0 : Nat) AV.junk)) (intOf ((t0.getD t8.toNat []).getD ((0 : Nat) + (1 : Nat)) AV.junk)) (intOf ((t0.getD t8.toNat []).getD ((0 : Nat) + (1 : Nat) + (1 : Nat)) AV.junk)) (intOf ((t0.getD t8.toNat []).getD ((0 : Nat) + (1 : Nat) + (1 : Nat) + (1 : Nat)) AV.junk))) = c0
  generalize (decide ((0 : Int) ≤ t8) && decide (t8 < (↑t0.length : Int))) = c1
  generalize (decide (t8 < t7)) = c2
  cases c2
  · skip
    rfl
  · skip
    cases c1
    · skip
      rfl
    · skip
      cases c0
      · skip
        rfl
      · skip
        rfl
abbrev pl36c_2 : Type := Tk × (List (List AV)) × Int
abbrev sl36c_2 : Type := Int
noncomputable def vt36c_2 (a : pl36c_2 × sl36c_2) : List AV := [AV.sl a.1.1 [Kd.int IntKind.i64, Kd.int IntKind.i64, Kd.int IntKind.i64, Kd.int IntKind.i64] a.1.2.1, AV.fn (nat_lit 40) [], AV.int IntKind.i64 a.1.2.2, AV.int IntKind.i64 a.2]
noncomputable def vc36c_2 (a : pl36c_2 × sl36c_2) : List Blk := []
noncomputable def de36c_2 (vt : List AV) (vc : List Blk) : Option (pl36c_2 × sl36c_2) :=
  match vt with
  | [qa0, qa1, qa2, qa3] => (match vc with
  | [] => (match qa0 with
  | AV.sl t0k [Kd.int IntKind.i64, Kd.int IntKind.i64, Kd.int IntKind.i64, Kd.int IntKind.i64] t0 => (match qa1 with
  | AV.fn (40) [] => (match qa2 with
  | AV.int IntKind.i64 t7 => (match qa3 with
  | AV.int IntKind.i64 t8 => (some ((t0k, t0, t7), t8))
  | _ => none)
  | _ => none)
  | _ => none)
  | _ => none)
  | _ => none)
  | _ => none
theorem de36c_2_ok (vt : List AV) (vc : List Blk) (a : pl36c_2 × sl36c_2) (h : de36c_2 vt vc = some a) : vt = vt36c_2 a ∧ vc = vc36c_2 a := by
  unfold de36c_2 at h
  split at h
  rotate_left
  · cases h
  split at h
  rotate_left
  · cases h
  split at h
  rotate_left
  · cases h
  split at h
  rotate_left
  · cases h
  split at h
  rotate_left
  · cases h
  split at h
  rotate_left
  · cases h
  injection h with h
  subst h
  exact ⟨rfl, rfl⟩
noncomputable def g36c_2 (p : pl36c_2) (s : sl36c_2) : Bool := go36c_2 p.1 p.2.1 p.2.2 s
noncomputable def n36c_2 (p : pl36c_2) (s : sl36c_2) : sl36c_2 := nx36c_2_3 p.1 p.2.1 p.2.2 s
noncomputable def y36c_2 (p : pl36c_2) (s : sl36c_2) : List (Bool × Out) := [(xc36c_2_0 p.1 p.2.1 p.2.2 s, (Ex.ret, [AV.int IntKind.i64 s], []))]
noncomputable def z36c_2 (p : pl36c_2) (s : sl36c_2) : Bool := xc36c_2_1 p.1 p.2.1 p.2.2 s
noncomputable def d36c_2 (p : pl36c_2) (s : sl36c_2) : Out := (Ex.exit (nat_lit 0), [AV.junk], [])
noncomputable def ls36c_2 : St → Option (Bool × List (Bool × Ex × St) × Ex × St) := lspOf [0, 1, 7, 8] [] [4] [] Try.f36.ntmps (0 + tab.nid 36) de36c_2 (spI g36c_2 n36c_2 y36c_2 z36c_2 d36c_2)
theorem lo36c_2 (rest : Lsp) : LoopOK1 (cfg Try.prog tab 100000 (gk k36b 30) (selL 2 ls36c_2 rest) 36 0 Try.f36.ntmps) (loopAt Try.f36 2) := LoopOK1.iter (i := 2) (by kernel_rfl) [0, 1, 7, 8] [] [4] [] vt36c_2 vc36c_2 de36c_2 g36c_2 n36c_2 y36c_2 z36c_2 d36c_2 (fun _ => rfl) de36c_2_ok (fun p s => rd36c_2 (selL 2 ls36c_2 rest) (p.1) (p.2.1) (p.2.2) s) (fun _ _ => rfl)
noncomputable def lsp36c : Lsp := (selL 2 ls36c_2 noLsp)
theorem loops36c : ∀ c, Try.f36.body = some c → LoopsOK (cfg Try.prog tab 100000 (gk k36b 30) lsp36c 36 0 Try.f36.ntmps) c := loops_of [2] (by kernel_rfl) (by kernel_rfl) (fun i hi => by
  simp only [List.mem_cons, List.not_mem_nil, or_false] at hi
  subst hi
  · exact lo36c_2 noLsp)
noncomputable def rev36c_0 (tk : Tk) (es : List (List AV)) : sl36c_2 := finL (g36c_2 (tk, es, (↑es.length : Int))) (n36c_2 (tk, es, (↑es.length : Int))) (0 : Int)
noncomputable def vev36c_0 (tk : Tk) (es : List (List AV)) : sl36c_2 := bif xc36c_2_0 tk es (↑es.length : Int) (rev36c_0 tk es) then rev36c_0 tk es else (-1 : Int)
noncomputable def vev36c_1 (tk : Tk) (es : List (List AV)) : Bool := bif (spI g36c_2 n36c_2 y36c_2 z36c_2 d36c_2 ((tk, es, (↑es.length : Int)), (0 : Int))).fst then true else false
theorem ev36c (tk : Tk) (es : List (List AV)) : evFin (cfg Try.prog tab 100000 (gk k36b 30) lsp36c 36 ([] : List Blk).length Try.f36.ntmps) ([] : List Blk).length Try.f36.resultTypes.toList Try.f36 [.sl tk [.int .i64, .int .i64, .int .i64, .int .i64] es, .fn 40 []] [] = bif vev36c_1 tk es then some (true, AV.int IntKind.i64 (vev36c_0 tk es), []) else none := by
  have h : evFin (cfg Try.prog tab 100000 (gk k36b 30) lsp36c 36 ([] : List Blk).length Try.f36.ntmps) ([] : List Blk).length Try.f36.resultTypes.toList Try.f36 [.sl tk [.int .i64, .int .i64, .int .i64, .int .i64] es, .fn 40 []] [] = bif (spI g36c_2 n36c_2 y36c_2 z36c_2 d36c_2 ((tk, es, (↑es.length : Int)), (0 : Int))).fst then bif xc36c_2_0 tk es (↑es.length : Int) (rev36c_0 tk es) then some (true, AV.int IntKind.i64 (rev36c_0 tk es), []) else some (true, AV.int IntKind.i64 (-1 : Int), []) else none := by kernel_rfl
  rw [h]
  clear h
  unfold vev36c_0 vev36c_1
  generalize ((spI g36c_2 n36c_2 y36c_2 z36c_2 d36c_2 ((tk, es, (↑es.length : Int)), (0 : Int))).fst) = c0
  generalize (xc36c_2_0 tk es (↑es.length : Int) (rev36c_0 tk es)) = c1
  cases c0
  · skip
    rfl
  · skip
    cases c1
    · skip
      rfl
    · skip
      rfl
-- spec vev36c_1 tk es ;; (true, AV.int IntKind.i64 (vev36c_0 tk es), [])
noncomputable def sp36c : List AV → List Blk → Option (Bool × AV × List Blk)
  | [.sl tk [.int .i64, .int .i64, .int .i64, .int .i64] es, .fn 40 []], [] => spW (vev36c_1 tk es) (some ((true, AV.int IntKind.i64 (vev36c_0 tk es), [])))
  | _, _ => none
noncomputable def k36c : Gam := fun f T C => match Nat.beq f 36 with
  | true => (sp36c T C).or (k36b f T C)
  | false => k36b f T C
theorem k36c_ok : GamOK Try.prog k36c := by
  intro f T C r outs h
  unfold k36c at h
  cases hf : Nat.beq f 36 with
  | false => rw [hf] at h; exact k36b_ok f T C r outs h
  | true =>
    have hf' := Nat.eq_of_beq_eq_true hf
    subst hf'
    rw [hf] at h
    dsimp only at h
    cases hs : sp36c T C with
    | none => rw [hs] at h; exact k36b_ok _ T C r outs h
    | some x =>
      rw [hs] at h
      have hx : x = (true, r, outs) := by simpa using h
      subst hx
      unfold sp36c at hs
      split at hs
      · rename_i tk es
        obtain ⟨hb, rfl, rfl⟩ := spT_inv hs
        have he := ev36c tk es
        rw [hb, cond_true] at he
        obtain ⟨r0, o0, h0, he⟩ := evFin_inv he
        obtain ⟨h1, h2⟩ := fn_ok mixed plain (gk_ok k36b_ok 30) Try.func36 loops36c h0
        exact ⟨h1, h2.fin he⟩
      · cases hs
noncomputable def vev39_0 (tk : Tk) (es : List (List AV)) : Bool := decide (vev36c_0 tk es ≥ (0 : Int))
noncomputable def vev39_1 (tk : Tk) (es : List (List AV)) : Bool := bif vev36c_1 tk es then true else false
theorem ev39 (tk : Tk) (es : List (List AV)) : evFin (cfg Try.prog tab 100000 (gk k36c 30) noLsp 39 ([] : List Blk).length Try.f39.ntmps) ([] : List Blk).length Try.f39.resultTypes.toList Try.f39 [.sl tk [.int .i64, .int .i64, .int .i64, .int .i64] es, .fn 40 []] [] = bif vev39_1 tk es then some (true, AV.bool (vev39_0 tk es), []) else none := by
  have h : evFin (cfg Try.prog tab 100000 (gk k36c 30) noLsp 39 ([] : List Blk).length Try.f39.ntmps) ([] : List Blk).length Try.f39.resultTypes.toList Try.f39 [.sl tk [.int .i64, .int .i64, .int .i64, .int .i64] es, .fn 40 []] [] = bif vev36c_1 tk es then some (true, AV.bool (decide (vev36c_0 tk es ≥ (0 : Int))), []) else none := by kernel_rfl
  rw [h]
  clear h
  unfold vev39_0 vev39_1
  generalize (vev36c_1 tk es) = c0
  cases c0
  · skip
    rfl
  · skip
    rfl
-- spec vev39_1 tk es ;; (true, AV.bool (vev39_0 tk es), [])
noncomputable def sp39 : List AV → List Blk → Option (Bool × AV × List Blk)
  | [.sl tk [.int .i64, .int .i64, .int .i64, .int .i64] es, .fn 40 []], [] => spW (vev39_1 tk es) (some ((true, AV.bool (vev39_0 tk es), [])))
  | _, _ => none
noncomputable def k39 : Gam := fun f T C => match Nat.beq f 39 with
  | true => (sp39 T C).or (k36c f T C)
  | false => k36c f T C
theorem k39_ok : GamOK Try.prog k39 := by
  intro f T C r outs h
  unfold k39 at h
  cases hf : Nat.beq f 39 with
  | false => rw [hf] at h; exact k36c_ok f T C r outs h
  | true =>
    have hf' := Nat.eq_of_beq_eq_true hf
    subst hf'
    rw [hf] at h
    dsimp only at h
    cases hs : sp39 T C with
    | none => rw [hs] at h; exact k36c_ok _ T C r outs h
    | some x =>
      rw [hs] at h
      have hx : x = (true, r, outs) := by simpa using h
      subst hx
      unfold sp39 at hs
      split at hs
      · rename_i tk es
        obtain ⟨hb, rfl, rfl⟩ := spT_inv hs
        have he := ev39 tk es
        rw [hb, cond_true] at he
        obtain ⟨r0, o0, h0, he⟩ := evFin_inv he
        obtain ⟨h1, h2⟩ := fn_ok mixed plain (gk_ok k36c_ok 30) Try.func39 (fun c _ => LoopsOK.none (fun _ _ => rfl) c) h0
        exact ⟨h1, h2.fin he⟩
      · cases hs
noncomputable def rn37_5_0 (t0k : Tk) (t0 : List (List AV)) (t6 : Int) (b0_0 : Int) (b0_1 : Int) (b0_2 : Int) (b0_3 : Int) (b1_0 : Int) (b1_1 : Int) (b1_2 : Int) (b1_3 : Int) : Int := intOf ((t0.getD t6.toNat []).getD (0 : Nat) AV.junk)
noncomputable def rn37_5_1 (t0k : Tk) (t0 : List (List AV)) (t6 : Int) (b0_0 : Int) (b0_1 : Int) (b0_2 : Int) (b0_3 : Int) (b1_0 : Int) (b1_1 : Int) (b1_2 : Int) (b1_3 : Int) : Int := intOf ((t0.getD t6.toNat []).getD ((0 : Nat) + (1 : Nat)) AV.junk)
noncomputable def rn37_5_2 (t0k : Tk) (t0 : List (List AV)) (t6 : Int) (b0_0 : Int) (b0_1 : Int) (b0_2 : Int) (b0_3 : Int) (b1_0 : Int) (b1_1 : Int) (b1_2 : Int) (b1_3 : Int) : Int := intOf ((t0.getD t6.toNat []).getD ((0 : Nat) + (1 : Nat) + (1 : Nat)) AV.junk)
noncomputable def rn37_5_3 (t0k : Tk) (t0 : List (List AV)) (t6 : Int) (b0_0 : Int) (b0_1 : Int) (b0_2 : Int) (b0_3 : Int) (b1_0 : Int) (b1_1 : Int) (b1_2 : Int) (b1_3 : Int) : Int := intOf ((t0.getD t6.toNat []).getD ((0 : Nat) + (1 : Nat) + (1 : Nat) + (1 : Nat)) AV.junk)
noncomputable def rn37_5_4 (t0k : Tk) (t0 : List (List AV)) (t6 : Int) (b0_0 : Int) (b0_1 : Int) (b0_2 : Int) (b0_3 : Int) (b1_0 : Int) (b1_1 : Int) (b1_2 : Int) (b1_3 : Int) : Int := vev38_0 (rn37_5_0 t0k t0 t6 b0_0 b0_1 b0_2 b0_3 b1_0 b1_1 b1_2 b1_3) (rn37_5_1 t0k t0 t6 b0_0 b0_1 b0_2 b0_3 b1_0 b1_1 b1_2 b1_3) (rn37_5_2 t0k t0 t6 b0_0 b0_1 b0_2 b0_3 b1_0 b1_1 b1_2 b1_3) (rn37_5_3 t0k t0 t6 b0_0 b0_1 b0_2 b0_3 b1_0 b1_1 b1_2 b1_3) b0_0 b0_1 b0_2 b0_3
noncomputable def go37_5 (t0k : Tk) (t0 : List (List AV)) (t6 : Int) (b0_0 : Int) (b0_1 : Int) (b0_2 : Int) (b0_3 : Int) (b1_0 : Int) (b1_1 : Int) (b1_2 : Int) (b1_3 : Int) : Bool := bif decide (t6 < (↑t0.length : Int)) then decide ((0 : Int) ≤ t6) && decide (t6 < (↑t0.length : Int)) else false
noncomputable def nx37_5_2 (t0k : Tk) (t0 : List (List AV)) (t6 : Int) (b0_0 : Int) (b0_1 : Int) (b0_2 : Int) (b0_3 : Int) (b1_0 : Int) (b1_1 : Int) (b1_2 : Int) (b1_3 : Int) : Int := IntKind.i64.wrap (t6 + (1 : Int))
noncomputable def nx37_5_3 (t0k : Tk) (t0 : List (List AV)) (t6 : Int) (b0_0 : Int) (b0_1 : Int) (b0_2 : Int) (b0_3 : Int) (b1_0 : Int) (b1_1 : Int) (b1_2 : Int) (b1_3 : Int) : Int := bif decide (rn37_5_4 t0k t0 t6 b0_0 b0_1 b0_2 b0_3 b1_0 b1_1 b1_2 b1_3 < (0 : Int)) then rn37_5_0 t0k t0 t6 b0_0 b0_1 b0_2 b0_3 b1_0 b1_1 b1_2 b1_3 else b0_0
noncomputable def nx37_5_4 (t0k : Tk) (t0 : List (List AV)) (t6 : Int) (b0_0 : Int) (b0_1 : Int) (b0_2 : Int) (b0_3 : Int) (b1_0 : Int) (b1_1 : Int) (b1_2 : Int) (b1_3 : Int) : Int := bif decide (rn37_5_4 t0k t0 t6 b0_0 b0_1 b0_2 b0_3 b1_0 b1_1 b1_2 b1_3 < (0 : Int)) then rn37_5_1 t0k t0 t6 b0_0 b0_1 b0_2 b0_3 b1_0 b1_1 b1_2 b1_3 else b0_1
noncomputable def nx37_5_5 (t0k : Tk) (t0 : List (List AV)) (t6 : Int) (b0_0 : Int) (b0_1 : Int) (b0_2 : Int) (b0_3 : Int) (b1_0 : Int) (b1_1 : Int) (b1_2 : Int) (b1_3 : Int) : Int := bif decide (rn37_5_4 t0k t0 t6 b0_0 b0_1 b0_2 b0_3 b1_0 b1_1 b1_2 b1_3 < (0 : Int)) then rn37_5_2 t0k t0 t6 b0_0 b0_1 b0_2 b0_3 b1_0 b1_1 b1_2 b1_3 else b0_2
noncomputable def nx37_5_6 (t0k : Tk) (t0 : List (List AV)) (t6 : Int) (b0_0 : Int) (b0_1 : Int) (b0_2 : Int) (b0_3 : Int) (b1_0 : Int) (b1_1 : Int) (b1_2 : Int) (b1_3 : Int) : Int := bif decide (rn37_5_4 t0k t0 t6 b0_0 b0_1 b0_2 b0_3 b1_0 b1_1 b1_2 b1_3 < (0 : Int)) then rn37_5_3 t0k t0 t6 b0_0 b0_1 b0_2 b0_3 b1_0 b1_1 b1_2 b1_3 else b0_3
noncomputable def xc37_5_0 (t0k : Tk) (t0 : List (List AV)) (t6 : Int) (b0_0 : Int) (b0_1 : Int) (b0_2 : Int) (b0_3 : Int) (b1_0 : Int) (b1_1 : Int) (b1_2 : Int) (b1_3 : Int) : Bool := bif decide (t6 < (↑t0.length : Int)) then false else true
theorem rd37_5 (rest : Lsp) (t0k : Tk) (t0 : List (List AV)) (t6 : Int) (b0_0 : Int) (b0_1 : Int) (b0_2 : Int) (b0_3 : Int) (b1_0 : Int) (b1_1 : Int) (b1_2 : Int) (b1_3 : Int) : roundV (cfg Try.prog tab 100000 (gk k39 30) rest 37 0 Try.f37.ntmps) (loopAt Try.f37 5) [0, 1, 4, 5, 6] [0, 1] [4, 5] [0, 1] [AV.sl t0k [Kd.int IntKind.i64, Kd.int IntKind.i64, Kd.int IntKind.i64, Kd.int IntKind.i64] t0, AV.fn (nat_lit 38) [], AV.hp (nat_lit 1) (nat_lit 0), AV.hp (nat_lit 0) (nat_lit 0), AV.int IntKind.i64 t6] [Blk.var [AV.int IntKind.i64 b0_0, AV.int IntKind.i64 b0_1, AV.int IntKind.i64 b0_2, AV.int IntKind.i64 b0_3], Blk.var [AV.int IntKind.i64 b1_0, AV.int IntKind.i64 b1_1, AV.int IntKind.i64 b1_2, AV.int IntKind.i64 b1_3]] = bif go37_5 t0k t0 t6 b0_0 b0_1 b0_2 b0_3 b1_0 b1_1 b1_2 b1_3 then some (Ex.norm, [AV.sl t0k [Kd.int IntKind.i64, Kd.int IntKind.i64, Kd.int IntKind.i64, Kd.int IntKind.i64] t0, AV.fn (nat_lit 38) [], AV.hp (nat_lit 1) (nat_lit 0), AV.hp (nat_lit 0) (nat_lit 0), AV.int IntKind.i64 (nx37_5_2 t0k t0 t6 b0_0 b0_1 b0_2 b0_3 b1_0 b1_1 b1_2 b1_3)], [Blk.var [AV.int IntKind.i64 (nx37_5_3 t0k t0 t6 b0_0 b0_1 b0_2 b0_3 b1_0 b1_1 b1_2 b1_3), AV.int IntKind.i64 (nx37_5_4 t0k t0 t6 b0_0 b0_1 b0_2 b0_3 b1_0 b1_1 b1_2 b1_3), AV.int IntKind.i64 (nx37_5_5 t0k t0 t6 b0_0 b0_1 b0_2 b0_3 b1_0 b1_1 b1_2 b1_3), AV.int IntKind.i64 (nx37_5_6 t0k t0 t6 b0_0 b0_1 b0_2 b0_3 b1_0 b1_1 b1_2 b1_3)], Blk.var [AV.int IntKind.i64 b1_0, AV.int IntKind.i64 b1_1, AV.int IntKind.i64 b1_2, AV.int IntKind.i64 b1_3]]) else bif xc37_5_0 t0k t0 t6 b0_0 b0_1 b0_2 b0_3 b1_0 b1_1 b1_2 b1_3 then some (Ex.exit (nat_lit 0), [AV.hp (nat_lit 1) (nat_lit 0), AV.hp (nat_lit 0) (nat_lit 0)], [Blk.var [AV.int IntKind.i64 b0_0, AV.int IntKind.i64 b0_1, AV.int IntKind.i64 b0_2, AV.int IntKind.i64 b0_3], Blk.var [AV.int IntKind.i64 b1_0, AV.int IntKind.i64 b1_1, AV.int IntKind.i64 b1_2, AV.int IntKind.i64 b1_3]]) else none := by
  have h : roundV (cfg Try.prog tab 100000 (gk k39 30) rest 37 0 Try.f37.ntmps) (loopAt Try.f37 5) [0, 1, 4, 5, 6] [0, 1] [4, 5] [0, 1] [AV.sl t0k [Kd.int IntKind.i64, Kd.int IntKind.i64, Kd.int IntKind.i64, Kd.int IntKind.i64] t0, AV.fn (nat_lit 38) [], AV.hp (nat_lit 1) (nat_lit 0), AV.hp (nat_lit 0) (nat_lit 0), AV.int IntKind.i64 t6] [Blk.var [AV.int IntKind.i64 b0_0, AV.int IntKind.i64 b0_1, AV.int IntKind.i64 b0_2, AV.int IntKind.i64 b0_3], Blk.var [AV.int IntKind.i64 b1_0, AV.int IntKind.i64 b1_1, AV.int IntKind.i64 b1_2, AV.int IntKind.i64 b1_3]] = bif decide (t6 < (↑t0.length : Int)) then bif decide ((0 : Int) ≤ t6) && decide (t6 < (↑t0.length : Int)) then bif decide (rn37_5_4 t0k t0 t6 b0_0 b0_1 b0_2 b0_3 b1_0 b1_1 b1_2 b1_3 < (0 : Int)) then bif decide ((0 : Int) ≤ t6) && decide (t6 < (↑t0.length : Int)) then some (Ex.norm, [AV.sl t0k [Kd.int IntKind.i64, Kd.int IntKind.i64, Kd.int IntKind.i64, Kd.int IntKind.i64] t0, AV.fn (nat_lit 38) [], AV.hp (nat_lit 1) (nat_lit 0), AV.hp (nat_lit 0) (nat_lit 0), AV.int IntKind.i64 (IntKind.i64.wrap (t6 + (1 : Int)))], [Blk.var [AV.int IntKind.i64 (rn37_5_0 t0k t0 t6 b0_0 b0_1 b0_2 b0_3 b1_0 b1_1 b1_2 b1_3), AV.int IntKind.i64 (rn37_5_1 t0k t0 t6 b0_0 b0_1 b0_2 b0_3 b1_0 b1_1 b1_2 b1_3), AV.int IntKind.i64 (rn37_5_2 t0k t0 t6 b0_0 b0_1 b0_2 b0_3 b1_0 b1_1 b1_2 b1_3), AV.int IntKind.i64 (rn37_5_3 t0k t0 t6 b0_0 b0_1 b0_2 b0_3 b1_0 b1_1 b1_2 b1_3)], Blk.var [AV.int IntKind.i64 b1_0, AV.int IntKind.i64 b1_1, AV.int IntKind.i64 b1_2, AV.int IntKind.i64 b1_3]]) else none else some (Ex.norm, [AV.sl t0k [Kd.int IntKind.i64, Kd.int IntKind.i64, Kd.int IntKind.i64, Kd.int IntKind.i64] t0, AV.fn (nat_lit 38) [], AV.hp (nat_lit 1) (nat_lit 0), AV.hp (nat_lit 0) (nat_lit 0), AV.int IntKind.i64 (IntKind.i64.wrap (t6 + (1 : Int)))], [Blk.var [AV.int IntKind.i64 b0_0, AV.int IntKind.i64 b0_1, AV.int IntKind.i64 b0_2, AV.int IntKind.i64 b0_3], Blk.var [AV.int IntKind.i64 b1_0, AV.int IntKind.i64 b1_1, AV.int IntKind.i64 b1_2, AV.int IntKind.i64 b1_3]]) else none else some (Ex.exit (nat_lit 0), [AV.hp (nat_lit 1) (nat_lit 0), AV.hp (nat_lit 0) (nat_lit 0)], [Blk.var [AV.int IntKind.i64 b0_0, AV.int IntKind.i64 b0_1, AV.int IntKind.i64 b0_2, AV.int IntKind.i64 b0_3], Blk.var [AV.int IntKind.i64 b1_0, AV.int IntKind.i64 b1_1, AV.int IntKind.i64 b1_2, AV.int IntKind.i64 b1_3]]) := by kernel_rfl
  rw [h]
  clear h
  unfold go37_5 nx37_5_2 nx37_5_3 nx37_5_4 nx37_5_5 nx37_5_6 xc37_5_0
  generalize (decide (rn37_5_4 t0k t0 t6 b0_0 b0_1 b0_2 b0_3 b1_0 b1_1 b1_2 b1_3 < (0 : Int))) = c0
  generalize (decide ((0 : Int) ≤ t6) && decide (t6 < (↑t0.length : Int))) = c1
  generalize (decide (t6 < (↑t0.length : Int))) = c2
  cases c2
  · skip
    rfl
  · skip
    cases c1
    · skip
      rfl
    · skip
      cases c0
      · skip
        rfl
      · skip
        rfl
abbrev pl37_5 : Type := Tk × (List (List AV)) × Int × Int × Int × Int
abbrev sl37_5 : Type := Int × Int × Int × Int × Int
noncomputable def vt37_5 (a : pl37_5 × sl37_5) : List AV := [AV.sl a.1.1 [Kd.int IntKind.i64, Kd.int IntKind.i64, Kd.int IntKind.i64, Kd.int IntKind.i64] a.1.2.1, AV.fn (nat_lit 38) [], AV.hp (nat_lit 1) (nat_lit 0), AV.hp (nat_lit 0) (nat_lit 0), AV.int IntKind.i64 a.2.1]
noncomputable def vc37_5 (a : pl37_5 × sl37_5) : List Blk := [Blk.var [AV.int IntKind.i64 a.2.2.1, AV.int IntKind.i64 a.2.2.2.1, AV.int IntKind.i64 a.2.2.2.2.1, AV.int IntKind.i64 a.2.2.2.2.2], Blk.var [AV.int IntKind.i64 a.1.2.2.1, AV.int IntKind.i64 a.1.2.2.2.1, AV.int IntKind.i64 a.1.2.2.2.2.1, AV.int IntKind.i64 a.1.2.2.2.2.2]]
noncomputable def de37_5 (vt : List AV) (vc : List Blk) : Option (pl37_5 × sl37_5) :=
  match vt with
  | [qa0, qa1, qa2, qa3, qa4] => (match vc with
  | [qb0, qb1] => (match qa0 with
  | AV.sl t0k [Kd.int IntKind.i64, Kd.int IntKind.i64, Kd.int IntKind.i64, Kd.int IntKind.i64] t0 => (match qa1 with
  | AV.fn (38) [] => (match qa2 with
  | AV.hp (1) (0) => (match qa3 with
  | AV.hp (0) (0) => (match qa4 with
  | AV.int IntKind.i64 t6 => (match qb0 with
  | Blk.var [AV.int IntKind.i64 b0_0, AV.int IntKind.i64 b0_1, AV.int IntKind.i64 b0_2, AV.int IntKind.i64 b0_3] => (match qb1 with
  | Blk.var [AV.int IntKind.i64 b1_0, AV.int IntKind.i64 b1_1, AV.int IntKind.i64 b1_2, AV.int IntKind.i64 b1_3] => (some ((t0k, t0, b1_0, b1_1, b1_2, b1_3), (t6, b0_0, b0_1, b0_2, b0_3)))
  | _ => none)
  | _ => none)
  | _ => none)
  | _ => none)
  | _ => none)
  | _ => none)
  | _ => none)
  | _ => none)
  | _ => none
theorem de37_5_ok (vt : List AV) (vc : List Blk) (a : pl37_5 × sl37_5) (h : de37_5 vt vc = some a) : vt = vt37_5 a ∧ vc = vc37_5 a := by
  unfold de37_5 at h
  split at h
  rotate_left
  · cases h
  split at h
  rotate_left
  · cases h
  split at h
  rotate_left
  · cases h
  split at h
  rotate_left
  · cases h
  split at h
  rotate_left
  · cases h
  split at h
  rotate_left
  · cases h
  split at h
  rotate_left
  · cases h
  split at h
  rotate_left
  · cases h
  split at h
  rotate_left
  · cases h
  injection h with h
  subst h
  exact ⟨rfl, rfl⟩
noncomputable def g37_5 (p : pl37_5) (s : sl37_5) : Bool := go37_5 p.1 p.2.1 s.1 s.2.1 s.2.2.1 s.2.2.2.1 s.2.2.2.2 p.2.2.1 p.2.2.2.1 p.2.2.2.2.1 p.2.2.2.2.2
noncomputable def n37_5 (p : pl37_5) (s : sl37_5) : sl37_5 := (nx37_5_2 p.1 p.2.1 s.1 s.2.1 s.2.2.1 s.2.2.2.1 s.2.2.2.2 p.2.2.1 p.2.2.2.1 p.2.2.2.2.1 p.2.2.2.2.2, nx37_5_3 p.1 p.2.1 s.1 s.2.1 s.2.2.1 s.2.2.2.1 s.2.2.2.2 p.2.2.1 p.2.2.2.1 p.2.2.2.2.1 p.2.2.2.2.2, nx37_5_4 p.1 p.2.1 s.1 s.2.1 s.2.2.1 s.2.2.2.1 s.2.2.2.2 p.2.2.1 p.2.2.2.1 p.2.2.2.2.1 p.2.2.2.2.2, nx37_5_5 p.1 p.2.1 s.1 s.2.1 s.2.2.1 s.2.2.2.1 s.2.2.2.2 p.2.2.1 p.2.2.2.1 p.2.2.2.2.1 p.2.2.2.2.2, nx37_5_6 p.1 p.2.1 s.1 s.2.1 s.2.2.1 s.2.2.2.1 s.2.2.2.2 p.2.2.1 p.2.2.2.1 p.2.2.2.2.1 p.2.2.2.2.2)
noncomputable def y37_5 (p : pl37_5) (s : sl37_5) : List (Bool × Out) := []
noncomputable def z37_5 (p : pl37_5) (s : sl37_5) : Bool := xc37_5_0 p.1 p.2.1 s.1 s.2.1 s.2.2.1 s.2.2.2.1 s.2.2.2.2 p.2.2.1 p.2.2.2.1 p.2.2.2.2.1 p.2.2.2.2.2
noncomputable def d37_5 (p : pl37_5) (s : sl37_5) : Out := (Ex.exit (nat_lit 0), [AV.hp (nat_lit 1) (nat_lit 0), AV.hp (nat_lit 0) (nat_lit 0)], [Blk.var [AV.int IntKind.i64 s.2.1, AV.int IntKind.i64 s.2.2.1, AV.int IntKind.i64 s.2.2.2.1, AV.int IntKind.i64 s.2.2.2.2], Blk.var [AV.int IntKind.i64 p.2.2.1, AV.int IntKind.i64 p.2.2.2.1, AV.int IntKind.i64 p.2.2.2.2.1, AV.int IntKind.i64 p.2.2.2.2.2]])
noncomputable def ls37_5 : St → Option (Bool × List (Bool × Ex × St) × Ex × St) := lspOf [0, 1, 4, 5, 6] [0, 1] [4, 5] [0, 1] Try.f37.ntmps (0 + tab.nid 37) de37_5 (spI g37_5 n37_5 y37_5 z37_5 d37_5)
theorem lo37_5 (rest : Lsp) : LoopOK1 (cfg Try.prog tab 100000 (gk k39 30) (selL 5 ls37_5 rest) 37 0 Try.f37.ntmps) (loopAt Try.f37 5) := LoopOK1.iter (i := 5) (by kernel_rfl) [0, 1, 4, 5, 6] [0, 1] [4, 5] [0, 1] vt37_5 vc37_5 de37_5 g37_5 n37_5 y37_5 z37_5 d37_5 (fun _ => rfl) de37_5_ok (fun p s => rd37_5 (selL 5 ls37_5 rest) (p.1) (p.2.1) (s.1) (s.2.1) (s.2.2.1) (s.2.2.2.1) (s.2.2.2.2) (p.2.2.1) (p.2.2.2.1) (p.2.2.2.2.1) (p.2.2.2.2.2)) (fun _ _ => rfl)
noncomputable def lsp37 : Lsp := (selL 5 ls37_5 noLsp)
theorem loops37 : ∀ c, Try.f37.body = some c → LoopsOK (cfg Try.prog tab 100000 (gk k39 30) lsp37 37 0 Try.f37.ntmps) c := loops_of [5] (by kernel_rfl) (by kernel_rfl) (fun i hi => by
  simp only [List.mem_cons, List.not_mem_nil, or_false] at hi
  subst hi
  · exact lo37_5 noLsp)
noncomputable def rev37_0 (tk : Tk) (es : List (List AV)) : sl37_5 := finL (g37_5 (tk, es, (0 : Int), (0 : Int), (0 : Int), (0 : Int))) (n37_5 (tk, es, (0 : Int), (0 : Int), (0 : Int), (0 : Int))) ((1 : Int), intOf ((es.getD (Int.toNat (0 : Int)) []).getD (0 : Nat) AV.junk), intOf ((es.getD (Int.toNat (0 : Int)) []).getD ((0 : Nat) + (1 : Nat)) AV.junk), intOf ((es.getD (Int.toNat (0 : Int)) []).getD ((0 : Nat) + (1 : Nat) + (1 : Nat)) AV.junk), intOf ((es.getD (Int.toNat (0 : Int)) []).getD ((0 : Nat) + (1 : Nat) + (1 : Nat) + (1 : Nat)) AV.junk))
noncomputable def vev37_0 (tk : Tk) (es : List (List AV)) : Int := (rev37_0 tk es).snd.fst
noncomputable def vev37_1 (tk : Tk) (es : List (List AV)) : Int := (rev37_0 tk es).snd.snd.fst
noncomputable def vev37_2 (tk : Tk) (es : List (List AV)) : Int := (rev37_0 tk es).snd.snd.snd.fst
noncomputable def vev37_3 (tk : Tk) (es : List (List AV)) : Int := (rev37_0 tk es).snd.snd.snd.snd
noncomputable def vev37_4 (tk : Tk) (es : List (List AV)) : Bool := bif decide ((↑es.length : Int) < (1 : Int)) then false else bif decide ((0 : Int) ≤ (0 : Int)) && decide ((0 : Int) < (↑es.length : Int)) then bif (spI g37_5 n37_5 y37_5 z37_5 d37_5 ((tk, es, (0 : Int), (0 : Int), (0 : Int), (0 : Int)), (1 : Int), intOf ((es.getD (Int.toNat (0 : Int)) []).getD (0 : Nat) AV.junk), intOf ((es.getD (Int.toNat (0 : Int)) []).getD ((0 : Nat) + (1 : Nat)) AV.junk), intOf ((es.getD (Int.toNat (0 : Int)) []).getD ((0 : Nat) + (1 : Nat) + (1 : Nat)) AV.junk), intOf ((es.getD (Int.toNat (0 : Int)) []).getD ((0 : Nat) + (1 : Nat) + (1 : Nat) + (1 : Nat)) AV.junk))).fst then true else false else false
theorem ev37 (tk : Tk) (es : List (List AV)) : evFin (cfg Try.prog tab 100000 (gk k39 30) lsp37 37 ([] : List Blk).length Try.f37.ntmps) ([] : List Blk).length Try.f37.resultTypes.toList Try.f37 [.sl tk [.int .i64, .int .i64, .int .i64, .int .i64] es, .fn 38 []] [] = bif vev37_4 tk es then some (true, AV.agg [AV.int IntKind.i64 (vev37_0 tk es), AV.int IntKind.i64 (vev37_1 tk es), AV.int IntKind.i64 (vev37_2 tk es), AV.int IntKind.i64 (vev37_3 tk es)], []) else none := by
  have h : evFin (cfg Try.prog tab 100000 (gk k39 30) lsp37 37 ([] : List Blk).length Try.f37.ntmps) ([] : List Blk).length Try.f37.resultTypes.toList Try.f37 [.sl tk [.int .i64, .int .i64, .int .i64, .int .i64] es, .fn 38 []] [] = bif decide ((↑es.length : Int) < (1 : Int)) then none else bif decide ((0 : Int) ≤ (0 : Int)) && decide ((0 : Int) < (↑es.length : Int)) then bif (spI g37_5 n37_5 y37_5 z37_5 d37_5 ((tk, es, (0 : Int), (0 : Int), (0 : Int), (0 : Int)), (1 : Int), intOf ((es.getD (Int.toNat (0 : Int)) []).getD (0 : Nat) AV.junk), intOf ((es.getD (Int.toNat (0 : Int)) []).getD ((0 : Nat) + (1 : Nat)) AV.junk), intOf ((es.getD (Int.toNat (0 : Int)) []).getD ((0 : Nat) + (1 : Nat) + (1 : Nat)) AV.junk), intOf ((es.getD (Int.toNat (0 : Int)) []).getD ((0 : Nat) + (1 : Nat) + (1 : Nat) + (1 : Nat)) AV.junk))).fst then some (true, AV.agg [AV.int IntKind.i64 (rev37_0 tk es).snd.fst, AV.int IntKind.i64 (rev37_0 tk es).snd.snd.fst, AV.int IntKind.i64 (rev37_0 tk es).snd.snd.snd.fst, AV.int IntKind.i64 (rev37_0 tk es).snd.snd.snd.snd], []) else none else none := by kernel_rfl
  rw [h]
  clear h
  unfold vev37_0 vev37_1 vev37_2 vev37_3 vev37_4
  generalize ((spI g37_5 n37_5 y37_5 z37_5 d37_5 ((tk, es, (0 : Int), (0 : Int), (0 : Int), (0 : Int)), (1 : Int), intOf ((es.getD (Int.toNat (0 : Int)) []).getD (0 : Nat) AV.junk), intOf ((es.getD (Int.toNat (0 : Int)) []).getD ((0 : Nat) + (1 : Nat)) AV.junk), intOf ((es.getD (Int.toNat (0 : Int)) []).getD ((0 : Nat) + (1 : Nat) + (1 : Nat)) AV.junk), intOf ((es.getD (Int.toNat (0 : Int)) []).getD ((0 : Nat) + (1 : Nat) + (1 : Nat) + (1 : Nat)) AV.junk))).fst) = c0
  generalize (decide ((0 : Int) ≤ (0 : Int)) && decide ((0 : Int) < (↑es.length : Int))) = c1
  generalize (decide ((↑es.length : Int) < (1 : Int))) = c2
  cases c2
  · skip
    cases c1
    · skip
      rfl
    · skip
      cases c0
      · skip
        rfl
      · skip
        rfl
  · skip
    rfl
-- spec vev37_4 tk es ;; (true, AV.agg [AV.int IntKind.i64 (vev37_0 tk es), AV.int IntKind.i64 (vev37_1 tk es), AV.int IntKind.i64 (vev37_2 tk es), AV.int IntKind.i64 (vev37_3 tk es)], [])
noncomputable def sp37 : List AV → List Blk → Option (Bool × AV × List Blk)
  | [.sl tk [.int .i64, .int .i64, .int .i64, .int .i64] es, .fn 38 []], [] => spW (vev37_4 tk es) (some ((true, AV.agg [AV.int IntKind.i64 (vev37_0 tk es), AV.int IntKind.i64 (vev37_1 tk es), AV.int IntKind.i64 (vev37_2 tk es), AV.int IntKind.i64 (vev37_3 tk es)], [])))
  | _, _ => none
noncomputable def k37 : Gam := fun f T C => match Nat.beq f 37 with
  | true => (sp37 T C).or (k39 f T C)
  | false => k39 f T C
theorem k37_ok : GamOK Try.prog k37 := by
  intro f T C r outs h
  unfold k37 at h
  cases hf : Nat.beq f 37 with
  | false => rw [hf] at h; exact k39_ok f T C r outs h
  | true =>
    have hf' := Nat.eq_of_beq_eq_true hf
    subst hf'
    rw [hf] at h
    dsimp only at h
    cases hs : sp37 T C with
    | none => rw [hs] at h; exact k39_ok _ T C r outs h
    | some x =>
      rw [hs] at h
      have hx : x = (true, r, outs) := by simpa using h
      subst hx
      unfold sp37 at hs
      split at hs
      · rename_i tk es
        obtain ⟨hb, rfl, rfl⟩ := spT_inv hs
        have he := ev37 tk es
        rw [hb, cond_true] at he
        obtain ⟨r0, o0, h0, he⟩ := evFin_inv he
        obtain ⟨h1, h2⟩ := fn_ok mixed plain (gk_ok k39_ok 30) Try.func37 loops37 h0
        exact ⟨h1, h2.fin he⟩
      · cases hs
noncomputable def vev29_0 (l : Int) (tk : Tk) (es : List (List AV)) (id : Int) : Bool := bif vev36a_1 tk es id then true else false
theorem ev29 (l : Int) (tk : Tk) (es : List (List AV)) (id : Int) : evFin (cfg Try.prog tab 100000 (gk k37 30) noLsp 29 ([] : List Blk).length Try.f29.ntmps) ([] : List Blk).length Try.f29.resultTypes.toList Try.f29 [.agg [.int .i64 l, .sl tk [.int .i64, .int .i64, .int .i64, .int .i64] es], .int .i64 id] [] = bif vev29_0 l tk es id then some (true, AV.int IntKind.i64 (vev36a_0 tk es id), []) else none := by
  have h : evFin (cfg Try.prog tab 100000 (gk k37 30) noLsp 29 ([] : List Blk).length Try.f29.ntmps) ([] : List Blk).length Try.f29.resultTypes.toList Try.f29 [.agg [.int .i64 l, .sl tk [.int .i64, .int .i64, .int .i64, .int .i64] es], .int .i64 id] [] = bif vev36a_1 tk es id then some (true, AV.int IntKind.i64 (vev36a_0 tk es id), []) else none := by kernel_rfl
  rw [h]
  clear h
  unfold vev29_0
  generalize (vev36a_1 tk es id) = c0
  cases c0
  · skip
    rfl
  · skip
    rfl
-- spec vev29_0 l tk es id ;; (true, AV.int IntKind.i64 (vev36a_0 tk es id), [])
noncomputable def sp29 : List AV → List Blk → Option (Bool × AV × List Blk)
  | [.agg [.int .i64 l, .sl tk [.int .i64, .int .i64, .int .i64, .int .i64] es], .int .i64 id], [] => spW (vev29_0 l tk es id) (some ((true, AV.int IntKind.i64 (vev36a_0 tk es id), [])))
  | _, _ => none
noncomputable def k29 : Gam := fun f T C => match Nat.beq f 29 with
  | true => (sp29 T C).or (k37 f T C)
  | false => k37 f T C
theorem k29_ok : GamOK Try.prog k29 := by
  intro f T C r outs h
  unfold k29 at h
  cases hf : Nat.beq f 29 with
  | false => rw [hf] at h; exact k37_ok f T C r outs h
  | true =>
    have hf' := Nat.eq_of_beq_eq_true hf
    subst hf'
    rw [hf] at h
    dsimp only at h
    cases hs : sp29 T C with
    | none => rw [hs] at h; exact k37_ok _ T C r outs h
    | some x =>
      rw [hs] at h
      have hx : x = (true, r, outs) := by simpa using h
      subst hx
      unfold sp29 at hs
      split at hs
      · rename_i l tk es id
        obtain ⟨hb, rfl, rfl⟩ := spT_inv hs
        have he := ev29 l tk es id
        rw [hb, cond_true] at he
        obtain ⟨r0, o0, h0, he⟩ := evFin_inv he
        obtain ⟨h1, h2⟩ := fn_ok mixed plain (gk_ok k37_ok 30) Try.func29 (fun c _ => LoopsOK.none (fun _ _ => rfl) c) h0
        exact ⟨h1, h2.fin he⟩
      · cases hs
noncomputable def rn24_8_0 (t20k : Tk) (t20 : List (List AV)) (t21 : Int) (t22 : Int) (b1_0 : Int) (b1_1k : Tk) (b1_1 : List (List AV)) : Int := intOf ((t20.getD t22.toNat []).getD (0 : Nat) AV.junk)
noncomputable def rn24_8_1 (t20k : Tk) (t20 : List (List AV)) (t21 : Int) (t22 : Int) (b1_0 : Int) (b1_1k : Tk) (b1_1 : List (List AV)) : sl36a_2 := vev36a_0 b1_1k b1_1 (rn24_8_0 t20k t20 t21 t22 b1_0 b1_1k b1_1)
noncomputable def go24_8 (t20k : Tk) (t20 : List (List AV)) (t21 : Int) (t22 : Int) (b1_0 : Int) (b1_1k : Tk) (b1_1 : List (List AV)) : Bool := bif decide (t22 < t21) then bif decide ((0 : Int) ≤ t22) && decide (t22 < (↑t20.length : Int)) then bif vev29_0 b1_0 b1_1k b1_1 (rn24_8_0 t20k t20 t21 t22 b1_0 b1_1k b1_1) then bif decide (rn24_8_1 t20k t20 t21 t22 b1_0 b1_1k b1_1 < t22) then false else true else false else false else false
noncomputable def nx24_8_3 (t20k : Tk) (t20 : List (List AV)) (t21 : Int) (t22 : Int) (b1_0 : Int) (b1_1k : Tk) (b1_1 : List (List AV)) : Int := IntKind.i64.wrap (t22 + (1 : Int))
noncomputable def xc24_8_0 (t20k : Tk) (t20 : List (List AV)) (t21 : Int) (t22 : Int) (b1_0 : Int) (b1_1k : Tk) (b1_1 : List (List AV)) : Bool := bif decide (t22 < t21) then bif decide ((0 : Int) ≤ t22) && decide (t22 < (↑t20.length : Int)) then bif vev29_0 b1_0 b1_1k b1_1 (rn24_8_0 t20k t20 t21 t22 b1_0 b1_1k b1_1) then decide (rn24_8_1 t20k t20 t21 t22 b1_0 b1_1k b1_1 < t22) else false else false else false
noncomputable def xc24_8_1 (t20k : Tk) (t20 : List (List AV)) (t21 : Int) (t22 : Int) (b1_0 : Int) (b1_1k : Tk) (b1_1 : List (List AV)) : Bool := bif decide (t22 < t21) then false else true
theorem rd24_8 (rest : Lsp) (t20k : Tk) (t20 : List (List AV)) (t21 : Int) (t22 : Int) (b1_0 : Int) (b1_1k : Tk) (b1_1 : List (List AV)) : roundV (cfg Try.prog tab 100000 (gk k29 30) rest 24 0 Try.f24.ntmps) (loopAt Try.f24 8) [1, 20, 21, 22] [1] [2] [] [AV.hp (nat_lit 1) (nat_lit 0), AV.sl t20k [Kd.int IntKind.i64, Kd.int IntKind.i64, Kd.int IntKind.i64, Kd.int IntKind.i64] t20, AV.int IntKind.i64 t21, AV.int IntKind.i64 t22] [Blk.var [AV.int IntKind.i64 b1_0, AV.sl b1_1k [Kd.int IntKind.i64, Kd.int IntKind.i64, Kd.int IntKind.i64, Kd.int IntKind.i64] b1_1]] = bif go24_8 t20k t20 t21 t22 b1_0 b1_1k b1_1 then some (Ex.norm, [AV.hp (nat_lit 1) (nat_lit 0), AV.sl t20k [Kd.int IntKind.i64, Kd.int IntKind.i64, Kd.int IntKind.i64, Kd.int IntKind.i64] t20, AV.int IntKind.i64 t21, AV.int IntKind.i64 (nx24_8_3 t20k t20 t21 t22 b1_0 b1_1k b1_1)], [Blk.var [AV.int IntKind.i64 b1_0, AV.sl b1_1k [Kd.int IntKind.i64, Kd.int IntKind.i64, Kd.int IntKind.i64, Kd.int IntKind.i64] b1_1]]) else bif xc24_8_0 t20k t20 t21 t22 b1_0 b1_1k b1_1 then some (Ex.ret, [AV.int IntKind.i64 (12 : Int)], []) else bif xc24_8_1 t20k t20 t21 t22 b1_0 b1_1k b1_1 then some (Ex.exit (nat_lit 1), [AV.junk], []) else none := by
  have h : roundV (cfg Try.prog tab 100000 (gk k29 30) rest 24 0 Try.f24.ntmps) (loopAt Try.f24 8) [1, 20, 21, 22] [1] [2] [] [AV.hp (nat_lit 1) (nat_lit 0), AV.sl t20k [Kd.int IntKind.i64, Kd.int IntKind.i64, Kd.int IntKind.i64, Kd.int IntKind.i64] t20, AV.int IntKind.i64 t21, AV.int IntKind.i64 t22] [Blk.var [AV.int IntKind.i64 b1_0, AV.sl b1_1k [Kd.int IntKind.i64, Kd.int IntKind.i64, Kd.int IntKind.i64, Kd.int IntKind.i64] b1_1]] = bif decide (t22 < t21) then bif decide ((0 : Int) ≤ t22) && decide (t22 < (↑t20.length : Int)) then bif vev29_0 b1_0 b1_1k b1_1 (rn24_8_0 t20k t20 t21 t22 b1_0 b1_1k b1_1) then bif decide (rn24_8_1 t20k t20 t21 t22 b1_0 b1_1k b1_1 < t22) then some (Ex.ret, [AV.int IntKind.i64 (12 : Int)], []) else some (Ex.norm, [AV.hp (nat_lit 1) (nat_lit 0), AV.sl t20k [Kd.int IntKind.i64, Kd.int IntKind.i64, Kd.int IntKind.i64, Kd.int IntKind.i64] t20, AV.int IntKind.i64 t21, AV.int IntKind.i64 (IntKind.i64.wrap (t22 + (1 : Int)))], [Blk.var [AV.int IntKind.i64 b1_0, AV.sl b1_1k [Kd.int IntKind.i64, Kd.int IntKind.i64, Kd.int IntKind.i64, Kd.int IntKind.i64] b1_1]]) else none else none else some (Ex.exit (nat_lit 1), [AV.junk], []) := by kernel_rfl
  rw [h]
  clear h
  unfold go24_8 nx24_8_3 xc24_8_0 xc24_8_1
  generalize (decide ((0 : Int) ≤ t22) && decide (t22 < (↑t20.length : Int))) = c0
  generalize (decide (rn24_8_1 t20k t20 t21 t22 b1_0 b1_1k b1_1 < t22)) = c1
  generalize (vev29_0 b1_0 b1_1k b1_1 (rn24_8_0 t20k t20 t21 t22 b1_0 b1_1k b1_1)) = c2
  generalize (decide (t22 < t21)) = c3
  cases c3
  · skip
    rfl
  · skip
    cases c0
    · skip
      rfl
    · skip
      cases c2
      · skip
        rfl
      · skip
        cases c1
        · skip
          rfl
        · skip
          rfl
abbrev pl24_8 : Type := Tk × (List (List AV)) × Int × Int × Tk × (List (List AV))
abbrev sl24_8 : Type := Int
noncomputable def vt24_8 (a : pl24_8 × sl24_8) : List AV := [AV.hp (nat_lit 1) (nat_lit 0), AV.sl a.1.1 [Kd.int IntKind.i64, Kd.int IntKind.i64, Kd.int IntKind.i64, Kd.int IntKind.i64] a.1.2.1, AV.int IntKind.i64 a.1.2.2.1, AV.int IntKind.i64 a.2]
noncomputable def vc24_8 (a : pl24_8 × sl24_8) : List Blk := [Blk.var [AV.int IntKind.i64 a.1.2.2.2.1, AV.sl a.1.2.2.2.2.1 [Kd.int IntKind.i64, Kd.int IntKind.i64, Kd.int IntKind.i64, Kd.int IntKind.i64] a.1.2.2.2.2.2]]
noncomputable def de24_8 (vt : List AV) (vc : List Blk) : Option (pl24_8 × sl24_8) :=
  match vt with
  | [qa0, qa1, qa2, qa3] => (match vc with
  | [qb0] => (match qa0 with
  | AV.hp (1) (0) => (match qa1 with
  | AV.sl t20k [Kd.int IntKind.i64, Kd.int IntKind.i64, Kd.int IntKind.i64, Kd.int IntKind.i64] t20 => (match qa2 with
  | AV.int IntKind.i64 t21 => (match qa3 with
  | AV.int IntKind.i64 t22 => (match qb0 with
  | Blk.var [AV.int IntKind.i64 b1_0, AV.sl b1_1k [Kd.int IntKind.i64, Kd.int IntKind.i64, Kd.int IntKind.i64, Kd.int IntKind.i64] b1_1] => (some ((t20k, t20, t21, b1_0, b1_1k, b1_1), t22))
  | _ => none)
  | _ => none)
  | _ => none)
  | _ => none)
  | _ => none)
  | _ => none)
  | _ => none
theorem de24_8_ok (vt : List AV) (vc : List Blk) (a : pl24_8 × sl24_8) (h : de24_8 vt vc = some a) : vt = vt24_8 a ∧ vc = vc24_8 a := by
  unfold de24_8 at h
  split at h
  rotate_left
  · cases h
  split at h
  rotate_left
  · cases h
  split at h
  rotate_left
  · cases h
  split at h
  rotate_left
  · cases h
  split at h
  rotate_left
  · cases h
  split at h
  rotate_left
  · cases h
  split at h
  rotate_left
  · cases h
  injection h with h
  subst h
  exact ⟨rfl, rfl⟩
noncomputable def g24_8 (p : pl24_8) (s : sl24_8) : Bool := go24_8 p.1 p.2.1 p.2.2.1 s p.2.2.2.1 p.2.2.2.2.1 p.2.2.2.2.2
noncomputable def n24_8 (p : pl24_8) (s : sl24_8) : sl24_8 := nx24_8_3 p.1 p.2.1 p.2.2.1 s p.2.2.2.1 p.2.2.2.2.1 p.2.2.2.2.2
noncomputable def y24_8 (p : pl24_8) (s : sl24_8) : List (Bool × Out) := [(xc24_8_0 p.1 p.2.1 p.2.2.1 s p.2.2.2.1 p.2.2.2.2.1 p.2.2.2.2.2, (Ex.ret, [AV.int IntKind.i64 (12 : Int)], []))]
noncomputable def z24_8 (p : pl24_8) (s : sl24_8) : Bool := xc24_8_1 p.1 p.2.1 p.2.2.1 s p.2.2.2.1 p.2.2.2.2.1 p.2.2.2.2.2
noncomputable def d24_8 (p : pl24_8) (s : sl24_8) : Out := (Ex.exit (nat_lit 1), [AV.junk], [])
noncomputable def ls24_8 : St → Option (Bool × List (Bool × Ex × St) × Ex × St) := lspOf [1, 20, 21, 22] [1] [2] [] Try.f24.ntmps (0 + tab.nid 24) de24_8 (spI g24_8 n24_8 y24_8 z24_8 d24_8)
theorem lo24_8 (rest : Lsp) : LoopOK1 (cfg Try.prog tab 100000 (gk k29 30) (selL 8 ls24_8 rest) 24 0 Try.f24.ntmps) (loopAt Try.f24 8) := LoopOK1.iter (i := 8) (by kernel_rfl) [1, 20, 21, 22] [1] [2] [] vt24_8 vc24_8 de24_8 g24_8 n24_8 y24_8 z24_8 d24_8 (fun _ => rfl) de24_8_ok (fun p s => rd24_8 (selL 8 ls24_8 rest) (p.1) (p.2.1) (p.2.2.1) s (p.2.2.2.1) (p.2.2.2.2.1) (p.2.2.2.2.2)) (fun _ _ => rfl)
noncomputable def lsp24 : Lsp := (selL 8 ls24_8 noLsp)
theorem loops24 : ∀ c, Try.f24.body = some c → LoopsOK (cfg Try.prog tab 100000 (gk k29 30) lsp24 24 0 Try.f24.ntmps) c := loops_of [8] (by kernel_rfl) (by kernel_rfl) (fun i hi => by
  simp only [List.mem_cons, List.not_mem_nil, or_false] at hi
  subst hi
  · exact lo24_8 noLsp)
noncomputable def rev24_0 (l : Int) (tk : Tk) (es : List (List AV)) : sl24_8 := finL (g24_8 (tk, es, (↑es.length : Int), l, tk, es)) (n24_8 (tk, es, (↑es.length : Int), l, tk, es)) (0 : Int)
noncomputable def vev24_0 (l : Int) (tk : Tk) (es : List (List AV)) : Int := bif !vev34_0 l (1 : Int) (1000 : Int) then (8 : Int) else bif decide ((↑es.length : Int) > (16 : Int)) then (7 : Int) else bif vev39_0 tk es then (8 : Int) else bif xc24_8_0 tk es (↑es.length : Int) (rev24_0 l tk es) l tk es then (12 : Int) else (0 : Int)
noncomputable def vev24_1 (l : Int) (tk : Tk) (es : List (List AV)) : Bool := bif !vev34_0 l (1 : Int) (1000 : Int) then true else bif decide ((↑es.length : Int) > (16 : Int)) then true else bif vev39_1 tk es then bif vev39_0 tk es then true else bif (spI g24_8 n24_8 y24_8 z24_8 d24_8 ((tk, es, (↑es.length : Int), l, tk, es), (0 : Int))).fst then true else false else false
theorem ev24 (l : Int) (tk : Tk) (es : List (List AV)) : evFin (cfg Try.prog tab 100000 (gk k29 30) lsp24 24 ([] : List Blk).length Try.f24.ntmps) ([] : List Blk).length Try.f24.resultTypes.toList Try.f24 [.agg [.int .i64 l, .sl tk [.int .i64, .int .i64, .int .i64, .int .i64] es]] [] = bif vev24_1 l tk es then some (true, AV.int IntKind.i64 (vev24_0 l tk es), []) else none := by
  have h : evFin (cfg Try.prog tab 100000 (gk k29 30) lsp24 24 ([] : List Blk).length Try.f24.ntmps) ([] : List Blk).length Try.f24.resultTypes.toList Try.f24 [.agg [.int .i64 l, .sl tk [.int .i64, .int .i64, .int .i64, .int .i64] es]] [] = bif !vev34_0 l (1 : Int) (1000 : Int) then some (true, AV.int IntKind.i64 (8 : Int), []) else bif decide ((↑es.length : Int) > (16 : Int)) then some (true, AV.int IntKind.i64 (7 : Int), []) else bif vev39_1 tk es then bif vev39_0 tk es then some (true, AV.int IntKind.i64 (8 : Int), []) else bif (spI g24_8 n24_8 y24_8 z24_8 d24_8 ((tk, es, (↑es.length : Int), l, tk, es), (0 : Int))).fst then bif xc24_8_0 tk es (↑es.length : Int) (rev24_0 l tk es) l tk es then some (true, AV.int IntKind.i64 (12 : Int), []) else some (true, AV.int IntKind.i64 (0 : Int), []) else none else none := by kernel_rfl
  rw [h]
  clear h
  unfold vev24_0 vev24_1
  generalize ((spI g24_8 n24_8 y24_8 z24_8 d24_8 ((tk, es, (↑es.length : Int), l, tk, es), (0 : Int))).fst) = c0
  generalize (decide ((↑es.length : Int) > (16 : Int))) = c1
  generalize (xc24_8_0 tk es (↑es.length : Int) (rev24_0 l tk es) l tk es) = c2
  generalize (!vev34_0 l (1 : Int) (1000 : Int)) = c3
  generalize (vev39_0 tk es) = c4
  generalize (vev39_1 tk es) = c5
  cases c3
  · skip
    cases c1
    · skip
      cases c5
      · skip
        rfl
      · skip
        cases c4
        · skip
          cases c0
          · skip
            rfl
          · skip
            cases c2
            · skip
              rfl
            · skip
              rfl
        · skip
          rfl
    · skip
      rfl
  · skip
    rfl
-- spec vev24_1 l tk es ;; (true, AV.int IntKind.i64 (vev24_0 l tk es), [])
noncomputable def sp24 : List AV → List Blk → Option (Bool × AV × List Blk)
  | [.agg [.int .i64 l, .sl tk [.int .i64, .int .i64, .int .i64, .int .i64] es]], [] => spW (vev24_1 l tk es) (some ((true, AV.int IntKind.i64 (vev24_0 l tk es), [])))
  | _, _ => none
noncomputable def k24 : Gam := fun f T C => match Nat.beq f 24 with
  | true => (sp24 T C).or (k29 f T C)
  | false => k29 f T C
theorem k24_ok : GamOK Try.prog k24 := by
  intro f T C r outs h
  unfold k24 at h
  cases hf : Nat.beq f 24 with
  | false => rw [hf] at h; exact k29_ok f T C r outs h
  | true =>
    have hf' := Nat.eq_of_beq_eq_true hf
    subst hf'
    rw [hf] at h
    dsimp only at h
    cases hs : sp24 T C with
    | none => rw [hs] at h; exact k29_ok _ T C r outs h
    | some x =>
      rw [hs] at h
      have hx : x = (true, r, outs) := by simpa using h
      subst hx
      unfold sp24 at hs
      split at hs
      · rename_i l tk es
        obtain ⟨hb, rfl, rfl⟩ := spT_inv hs
        have he := ev24 l tk es
        rw [hb, cond_true] at he
        obtain ⟨r0, o0, h0, he⟩ := evFin_inv he
        obtain ⟨h1, h2⟩ := fn_ok mixed plain (gk_ok k29_ok 30) Try.func24 loops24 h0
        exact ⟨h1, h2.fin he⟩
      · cases hs
noncomputable def go22_5 (t3 : Int) (t10k : Tk) (t10 : List (List AV)) (t11 : Int) (t12 : Int) : Bool := bif decide (t12 < t11) then decide ((0 : Int) ≤ t12) && decide (t12 < (↑t10.length : Int)) else false
noncomputable def nx22_5_0 (t3 : Int) (t10k : Tk) (t10 : List (List AV)) (t11 : Int) (t12 : Int) : Int := IntKind.i64.wrap (t3 + intOf ((t10.getD t12.toNat []).getD ((0 : Nat) + (1 : Nat) + (1 : Nat)) AV.junk))
noncomputable def nx22_5_4 (t3 : Int) (t10k : Tk) (t10 : List (List AV)) (t11 : Int) (t12 : Int) : Int := IntKind.i64.wrap (t12 + (1 : Int))
noncomputable def xc22_5_0 (t3 : Int) (t10k : Tk) (t10 : List (List AV)) (t11 : Int) (t12 : Int) : Bool := bif decide (t12 < t11) then false else true
theorem rd22_5 (rest : Lsp) (t3 : Int) (t10k : Tk) (t10 : List (List AV)) (t11 : Int) (t12 : Int) : roundV (cfg Try.prog tab 100000 (gk k24 30) rest 22 0 Try.f22.ntmps) (loopAt Try.f22 5) [3, 10, 11, 12] [] [3] [] [AV.int IntKind.i64 t3, AV.sl t10k [Kd.int IntKind.i64, Kd.int IntKind.i64, Kd.int IntKind.i64, Kd.int IntKind.i64] t10, AV.int IntKind.i64 t11, AV.int IntKind.i64 t12] [] = bif go22_5 t3 t10k t10 t11 t12 then some (Ex.norm, [AV.int IntKind.i64 (nx22_5_0 t3 t10k t10 t11 t12), AV.sl t10k [Kd.int IntKind.i64, Kd.int IntKind.i64, Kd.int IntKind.i64, Kd.int IntKind.i64] t10, AV.int IntKind.i64 t11, AV.int IntKind.i64 (nx22_5_4 t3 t10k t10 t11 t12)], []) else bif xc22_5_0 t3 t10k t10 t11 t12 then some (Ex.exit (nat_lit 0), [AV.int IntKind.i64 t3], []) else none := by
  have h : roundV (cfg Try.prog tab 100000 (gk k24 30) rest 22 0 Try.f22.ntmps) (loopAt Try.f22 5) [3, 10, 11, 12] [] [3] [] [AV.int IntKind.i64 t3, AV.sl t10k [Kd.int IntKind.i64, Kd.int IntKind.i64, Kd.int IntKind.i64, Kd.int IntKind.i64] t10, AV.int IntKind.i64 t11, AV.int IntKind.i64 t12] [] = bif decide (t12 < t11) then bif decide ((0 : Int) ≤ t12) && decide (t12 < (↑t10.length : Int)) then some (Ex.norm, [AV.int IntKind.i64 (IntKind.i64.wrap (t3 + intOf ((t10.getD t12.toNat []).getD ((0 : Nat) + (1 : Nat) + (1 : Nat)) AV.junk))), AV.sl t10k [Kd.int IntKind.i64, Kd.int IntKind.i64, Kd.int IntKind.i64, Kd.int IntKind.i64] t10, AV.int IntKind.i64 t11, AV.int IntKind.i64 (IntKind.i64.wrap (t12 + (1 : Int)))], []) else none else some (Ex.exit (nat_lit 0), [AV.int IntKind.i64 t3], []) := by kernel_rfl
  rw [h]
  clear h
  unfold go22_5 nx22_5_0 nx22_5_4 xc22_5_0
  generalize (decide ((0 : Int) ≤ t12) && decide (t12 < (↑t10.length : Int))) = c0
  generalize (decide (t12 < t11)) = c1
  cases c1
  · skip
    rfl
  · skip
    cases c0
    · skip
      rfl
    · skip
      rfl
abbrev pl22_5 : Type := Tk × (List (List AV)) × Int
abbrev sl22_5 : Type := Int × Int
noncomputable def vt22_5 (a : pl22_5 × sl22_5) : List AV := [AV.int IntKind.i64 a.2.1, AV.sl a.1.1 [Kd.int IntKind.i64, Kd.int IntKind.i64, Kd.int IntKind.i64, Kd.int IntKind.i64] a.1.2.1, AV.int IntKind.i64 a.1.2.2, AV.int IntKind.i64 a.2.2]
noncomputable def vc22_5 (a : pl22_5 × sl22_5) : List Blk := []
noncomputable def de22_5 (vt : List AV) (vc : List Blk) : Option (pl22_5 × sl22_5) :=
  match vt with
  | [qa0, qa1, qa2, qa3] => (match vc with
  | [] => (match qa0 with
  | AV.int IntKind.i64 t3 => (match qa1 with
  | AV.sl t10k [Kd.int IntKind.i64, Kd.int IntKind.i64, Kd.int IntKind.i64, Kd.int IntKind.i64] t10 => (match qa2 with
  | AV.int IntKind.i64 t11 => (match qa3 with
  | AV.int IntKind.i64 t12 => (some ((t10k, t10, t11), (t3, t12)))
  | _ => none)
  | _ => none)
  | _ => none)
  | _ => none)
  | _ => none)
  | _ => none
theorem de22_5_ok (vt : List AV) (vc : List Blk) (a : pl22_5 × sl22_5) (h : de22_5 vt vc = some a) : vt = vt22_5 a ∧ vc = vc22_5 a := by
  unfold de22_5 at h
  split at h
  rotate_left
  · cases h
  split at h
  rotate_left
  · cases h
  split at h
  rotate_left
  · cases h
  split at h
  rotate_left
  · cases h
  split at h
  rotate_left
  · cases h
  split at h
  rotate_left
  · cases h
  injection h with h
  subst h
  exact ⟨rfl, rfl⟩
noncomputable def g22_5 (p : pl22_5) (s : sl22_5) : Bool := go22_5 s.1 p.1 p.2.1 p.2.2 s.2
noncomputable def n22_5 (p : pl22_5) (s : sl22_5) : sl22_5 := (nx22_5_0 s.1 p.1 p.2.1 p.2.2 s.2, nx22_5_4 s.1 p.1 p.2.1 p.2.2 s.2)
noncomputable def y22_5 (p : pl22_5) (s : sl22_5) : List (Bool × Out) := []
noncomputable def z22_5 (p : pl22_5) (s : sl22_5) : Bool := xc22_5_0 s.1 p.1 p.2.1 p.2.2 s.2
noncomputable def d22_5 (p : pl22_5) (s : sl22_5) : Out := (Ex.exit (nat_lit 0), [AV.int IntKind.i64 s.1], [])
noncomputable def ls22_5 : St → Option (Bool × List (Bool × Ex × St) × Ex × St) := lspOf [3, 10, 11, 12] [] [3] [] Try.f22.ntmps (0 + tab.nid 22) de22_5 (spI g22_5 n22_5 y22_5 z22_5 d22_5)
theorem lo22_5 (rest : Lsp) : LoopOK1 (cfg Try.prog tab 100000 (gk k24 30) (selL 5 ls22_5 rest) 22 0 Try.f22.ntmps) (loopAt Try.f22 5) := LoopOK1.iter (i := 5) (by kernel_rfl) [3, 10, 11, 12] [] [3] [] vt22_5 vc22_5 de22_5 g22_5 n22_5 y22_5 z22_5 d22_5 (fun _ => rfl) de22_5_ok (fun p s => rd22_5 (selL 5 ls22_5 rest) (s.1) (p.1) (p.2.1) (p.2.2) (s.2)) (fun _ _ => rfl)
noncomputable def lsp22 : Lsp := (selL 5 ls22_5 noLsp)
theorem loops22 : ∀ c, Try.f22.body = some c → LoopsOK (cfg Try.prog tab 100000 (gk k24 30) lsp22 22 0 Try.f22.ntmps) c := loops_of [5] (by kernel_rfl) (by kernel_rfl) (fun i hi => by
  simp only [List.mem_cons, List.not_mem_nil, or_false] at hi
  subst hi
  · exact lo22_5 noLsp)
noncomputable def rev22_0 (l : Int) (tk : Tk) (es : List (List AV)) : sl22_5 := finL (g22_5 (tk, es, (↑es.length : Int))) (n22_5 (tk, es, (↑es.length : Int))) ((0 : Int), (0 : Int))
noncomputable def vev22_0 (l : Int) (tk : Tk) (es : List (List AV)) : Int := bif vev24_0 l tk es != (0 : Int) then (0 : Int) else (rev22_0 l tk es).fst
noncomputable def vev22_1 (l : Int) (tk : Tk) (es : List (List AV)) : Bool := bif vev24_1 l tk es then bif vev24_0 l tk es != (0 : Int) then true else bif (spI g22_5 n22_5 y22_5 z22_5 d22_5 ((tk, es, (↑es.length : Int)), (0 : Int), (0 : Int))).fst then true else false else false
theorem ev22 (l : Int) (tk : Tk) (es : List (List AV)) : evFin (cfg Try.prog tab 100000 (gk k24 30) lsp22 22 ([] : List Blk).length Try.f22.ntmps) ([] : List Blk).length Try.f22.resultTypes.toList Try.f22 [.agg [.int .i64 l, .sl tk [.int .i64, .int .i64, .int .i64, .int .i64] es]] [] = bif vev22_1 l tk es then some (true, AV.int IntKind.i64 (vev22_0 l tk es), []) else none := by
  have h : evFin (cfg Try.prog tab 100000 (gk k24 30) lsp22 22 ([] : List Blk).length Try.f22.ntmps) ([] : List Blk).length Try.f22.resultTypes.toList Try.f22 [.agg [.int .i64 l, .sl tk [.int .i64, .int .i64, .int .i64, .int .i64] es]] [] = bif vev24_1 l tk es then bif vev24_0 l tk es != (0 : Int) then some (true, AV.int IntKind.i64 (0 : Int), []) else bif (spI g22_5 n22_5 y22_5 z22_5 d22_5 ((tk, es, (↑es.length : Int)), (0 : Int), (0 : Int))).fst then some (true, AV.int IntKind.i64 (rev22_0 l tk es).fst, []) else none else none := by kernel_rfl
  rw [h]
  clear h
  unfold vev22_0 vev22_1
  generalize ((spI g22_5 n22_5 y22_5 z22_5 d22_5 ((tk, es, (↑es.length : Int)), (0 : Int), (0 : Int))).fst) = c0
  generalize (vev24_0 l tk es != (0 : Int)) = c1
  generalize (vev24_1 l tk es) = c2
  cases c2
  · skip
    rfl
  · skip
    cases c1
    · skip
      cases c0
      · skip
        rfl
      · skip
        rfl
    · skip
      rfl
-- spec vev22_1 l tk es ;; (true, AV.int IntKind.i64 (vev22_0 l tk es), [])
noncomputable def sp22 : List AV → List Blk → Option (Bool × AV × List Blk)
  | [.agg [.int .i64 l, .sl tk [.int .i64, .int .i64, .int .i64, .int .i64] es]], [] => spW (vev22_1 l tk es) (some ((true, AV.int IntKind.i64 (vev22_0 l tk es), [])))
  | _, _ => none
noncomputable def k22 : Gam := fun f T C => match Nat.beq f 22 with
  | true => (sp22 T C).or (k24 f T C)
  | false => k24 f T C
theorem k22_ok : GamOK Try.prog k22 := by
  intro f T C r outs h
  unfold k22 at h
  cases hf : Nat.beq f 22 with
  | false => rw [hf] at h; exact k24_ok f T C r outs h
  | true =>
    have hf' := Nat.eq_of_beq_eq_true hf
    subst hf'
    rw [hf] at h
    dsimp only at h
    cases hs : sp22 T C with
    | none => rw [hs] at h; exact k24_ok _ T C r outs h
    | some x =>
      rw [hs] at h
      have hx : x = (true, r, outs) := by simpa using h
      subst hx
      unfold sp22 at hs
      split at hs
      · rename_i l tk es
        obtain ⟨hb, rfl, rfl⟩ := spT_inv hs
        have he := ev22 l tk es
        rw [hb, cond_true] at he
        obtain ⟨r0, o0, h0, he⟩ := evFin_inv he
        obtain ⟨h1, h2⟩ := fn_ok mixed plain (gk_ok k24_ok 30) Try.func22 loops22 h0
        exact ⟨h1, h2.fin he⟩
      · cases hs
noncomputable def vev20_0 (l : Int) (tk : Tk) (es : List (List AV)) : Int := bif bif (↑es.length : Int) == (0 : Int) then true else bif vev24_1 l tk es then vev24_0 l tk es != (0 : Int) else false then (-1 : Int) else bif decide (vev36b_0 tk es l tk es ≥ (0 : Int)) then vev36b_0 tk es l tk es else vev36a_0 tk es (vev37_0 tk es)
noncomputable def vev20_1 (l : Int) (tk : Tk) (es : List (List AV)) : Bool := bif bif (↑es.length : Int) == (0 : Int) then true else vev24_1 l tk es then bif bif (↑es.length : Int) == (0 : Int) then true else bif vev24_1 l tk es then vev24_0 l tk es != (0 : Int) else false then true else bif vev36b_1 tk es l tk es then bif decide (vev36b_0 tk es l tk es ≥ (0 : Int)) then true else bif vev37_4 tk es then bif vev29_0 l tk es (vev37_0 tk es) then true else false else false else false else false
theorem ev20 (l : Int) (tk : Tk) (es : List (List AV)) : evFin (cfg Try.prog tab 100000 (gk k22 30) noLsp 20 ([] : List Blk).length Try.f20.ntmps) ([] : List Blk).length Try.f20.resultTypes.toList Try.f20 [.agg [.int .i64 l, .sl tk [.int .i64, .int .i64, .int .i64, .int .i64] es]] [] = bif vev20_1 l tk es then some (true, AV.int IntKind.i64 (vev20_0 l tk es), []) else none := by
  have h : evFin (cfg Try.prog tab 100000 (gk k22 30) noLsp 20 ([] : List Blk).length Try.f20.ntmps) ([] : List Blk).length Try.f20.resultTypes.toList Try.f20 [.agg [.int .i64 l, .sl tk [.int .i64, .int .i64, .int .i64, .int .i64] es]] [] = bif bif (↑es.length : Int) == (0 : Int) then true else bif vev24_1 l tk es then true else false then bif bif (↑es.length : Int) == (0 : Int) then true else bif vev24_1 l tk es then bif false then true else vev24_0 l tk es != (0 : Int) else false then some (true, AV.int IntKind.i64 (-1 : Int), []) else bif vev36b_1 tk es l tk es then bif decide (vev36b_0 tk es l tk es ≥ (0 : Int)) then some (true, AV.int IntKind.i64 (vev36b_0 tk es l tk es), []) else bif vev37_4 tk es then bif vev29_0 l tk es (vev37_0 tk es) then some (true, AV.int IntKind.i64 (vev36a_0 tk es (vev37_0 tk es)), []) else none else none else none else none := by kernel_rfl
  rw [h]
  clear h
  unfold vev20_0 vev20_1
  generalize (decide (vev36b_0 tk es l tk es ≥ (0 : Int))) = c0
  generalize ((↑es.length : Int) == (0 : Int)) = c1
  generalize (vev24_0 l tk es != (0 : Int)) = c2
  generalize (vev29_0 l tk es (vev37_0 tk es)) = c3
  generalize (vev36b_1 tk es l tk es) = c4
  generalize (vev24_1 l tk es) = c5
  generalize (vev37_4 tk es) = c6
  cases c1
  · skip
    cases c5
    · skip
      rfl
    · skip
      cases c2
      · skip
        cases c4
        · skip
          rfl
        · skip
          cases c0
          · skip
            cases c6
            · skip
              rfl
            · skip
              cases c3
              · skip
                rfl
              · skip
                rfl
          · skip
            rfl
      · skip
        rfl
  · skip
    rfl
-- spec vev20_1 l tk es ;; (true, AV.int IntKind.i64 (vev20_0 l tk es), [])
noncomputable def sp20 : List AV → List Blk → Option (Bool × AV × List Blk)
  | [.agg [.int .i64 l, .sl tk [.int .i64, .int .i64, .int .i64, .int .i64] es]], [] => spW (vev20_1 l tk es) (some ((true, AV.int IntKind.i64 (vev20_0 l tk es), [])))
  | _, _ => none
noncomputable def k20 : Gam := fun f T C => match Nat.beq f 20 with
  | true => (sp20 T C).or (k22 f T C)
  | false => k22 f T C
theorem k20_ok : GamOK Try.prog k20 := by
  intro f T C r outs h
  unfold k20 at h
  cases hf : Nat.beq f 20 with
  | false => rw [hf] at h; exact k22_ok f T C r outs h
  | true =>
    have hf' := Nat.eq_of_beq_eq_true hf
    subst hf'
    rw [hf] at h
    dsimp only at h
    cases hs : sp20 T C with
    | none => rw [hs] at h; exact k22_ok _ T C r outs h
    | some x =>
      rw [hs] at h
      have hx : x = (true, r, outs) := by simpa using h
      subst hx
      unfold sp20 at hs
      split at hs
      · rename_i l tk es
        obtain ⟨hb, rfl, rfl⟩ := spT_inv hs
        have he := ev20 l tk es
        rw [hb, cond_true] at he
        obtain ⟨r0, o0, h0, he⟩ := evFin_inv he
        obtain ⟨h1, h2⟩ := fn_ok mixed plain (gk_ok k22_ok 30) Try.func20 (fun c _ => LoopsOK.none (fun _ _ => rfl) c) h0
        exact ⟨h1, h2.fin he⟩
      · cases hs
end Go.Proofs.Gv
