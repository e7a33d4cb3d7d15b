import Derived.Test.YtogfdnopjgpdiaaGt
import Derived.KernelRfl
import Derived.Test.YtogfdnopjgpdiaaGwF
import Derived.Test.YtogfdnopjgpdiaaGaUq2
namespace Go.Proofs.Gv
open Go.Proofs
set_option linter.unusedVariables false
noncomputable def rev19_0 (tk : Tk) (es : List (List AV)) (now : Int) (most : Int) : Int := intOf ((es.getD (Int.toNat (0 : Int)) []).getD ((0 : Nat) + (1 : Nat)) AV.junk)
noncomputable def rev19_1 (tk : Tk) (es : List (List AV)) (now : Int) (most : Int) : Int := IntKind.u64.wrap (IntKind.u64.wrap now - IntKind.u64.wrap (rev19_0 tk es now most))
noncomputable def vev19_0 (tk : Tk) (es : List (List AV)) (now : Int) (most : Int) : Bool := bif bif (↑es.length : Int) == (0 : Int) then true else bif decide (most < (0 : Int)) then true else bif decide ((0 : Int) ≤ (0 : Int)) && decide ((0 : Int) < (↑es.length : Int)) then decide (now < rev19_0 tk es now most) else false then false else decide (rev19_1 tk es now most ≥ IntKind.u64.wrap most)
noncomputable def vev19_1 (tk : Tk) (es : List (List AV)) (now : Int) (most : Int) : Bool := bif bif (↑es.length : Int) == (0 : Int) then true else bif decide (most < (0 : Int)) then true else decide ((0 : Int) ≤ (0 : Int)) && decide ((0 : Int) < (↑es.length : Int)) then bif bif (↑es.length : Int) == (0 : Int) then true else bif decide (most < (0 : Int)) then true else bif decide ((0 : Int) ≤ (0 : Int)) && decide ((0 : Int) < (↑es.length : Int)) then decide (now < rev19_0 tk es now most) else false then true else bif decide ((0 : Int) ≤ (0 : Int)) && decide ((0 : Int) < (↑es.length : Int)) then true else false else false
theorem ev19 (tk : Tk) (es : List (List AV)) (now : Int) (most : Int) : evFin (cfg Try.prog tab 100000 (gk k15 30) noLsp 19 ([] : List Blk).length Try.f19.ntmps) ([] : List Blk).length Try.f19.resultTypes.toList Try.f19 [.sl tk [.sl [.int .u16, .int .u32], .int .i64] es, .int .i64 now, .int .i64 most] [] = bif vev19_1 tk es now most then some (true, AV.bool (vev19_0 tk es now most), []) else none := by
  have h : evFin (cfg Try.prog tab 100000 (gk k15 30) noLsp 19 ([] : List Blk).length Try.f19.ntmps) ([] : List Blk).length Try.f19.resultTypes.toList Try.f19 [.sl tk [.sl [.int .u16, .int .u32], .int .i64] es, .int .i64 now, .int .i64 most] [] = bif bif (↑es.length : Int) == (0 : Int) then true else bif bif false then true else decide (most < (0 : Int)) then true else bif decide ((0 : Int) ≤ (0 : Int)) && decide ((0 : Int) < (↑es.length : Int)) then true else false then bif bif (↑es.length : Int) == (0 : Int) then true else bif bif false then true else decide (most < (0 : Int)) then true else bif decide ((0 : Int) ≤ (0 : Int)) && decide ((0 : Int) < (↑es.length : Int)) then bif false then true else decide (now < rev19_0 tk es now most) else false then some (true, AV.bool false, []) else bif decide ((0 : Int) ≤ (0 : Int)) && decide ((0 : Int) < (↑es.length : Int)) then some (true, AV.bool (decide (rev19_1 tk es now most ≥ IntKind.u64.wrap most)), []) else none else none := by kernel_rfl
  rw [h]
  clear h
  unfold vev19_0 vev19_1
  generalize (decide ((0 : Int) ≤ (0 : Int)) && decide ((0 : Int) < (↑es.length : Int))) = c0
  generalize (decide (now < rev19_0 tk es now most)) = c1
  generalize (decide (most < (0 : Int))) = c2
  generalize ((↑es.length : Int) == (0 : Int)) = c3
  cases c3
  · skip
    cases c2
    · skip
      cases c0
      · skip
        rfl
      · skip
        cases c1
        · skip
          rfl
        · skip
          rfl
    · skip
      rfl
  · skip
    rfl
-- spec vev19_1 tk es now most ;; (true, AV.bool (vev19_0 tk es now most), [])
noncomputable def sp19 : List AV → List Blk → Option (Bool × AV × List Blk)
  | [.sl tk [.sl [.int .u16, .int .u32], .int .i64] es, .int .i64 now, .int .i64 most], [] => spW (vev19_1 tk es now most) (some ((true, AV.bool (vev19_0 tk es now most), [])))
  | _, _ => none
noncomputable def k19 : Gam := fun f T C => match Nat.beq f 19 with
  | true => (sp19 T C).or (k15 f T C)
  | false => k15 f T C
theorem k19_ok : GamOK Try.prog k19 := by
  intro f T C r outs h
  unfold k19 at h
  cases hf : Nat.beq f 19 with
  | false => rw [hf] at h; exact k15_ok f T C r outs h
  | true =>
    have hf' := Nat.eq_of_beq_eq_true hf
    subst hf'
    rw [hf] at h
    dsimp only at h
    cases hs : sp19 T C with
    | none => rw [hs] at h; exact k15_ok _ T C r outs h
    | some x =>
      rw [hs] at h
      have hx : x = (true, r, outs) := by simpa using h
      subst hx
      unfold sp19 at hs
      split at hs
      · rename_i tk es now most
        obtain ⟨hb, rfl, rfl⟩ := spT_inv hs
        have he := ev19 tk es now most
        rw [hb, cond_true] at he
        obtain ⟨r0, o0, h0, he⟩ := evFin_inv he
        obtain ⟨h1, h2⟩ := fn_ok mixed plain (gk_ok k15_ok 30) Try.func19 (fun c _ => LoopsOK.none (fun _ _ => rfl) c) h0
        exact ⟨h1, h2.fin he⟩
      · cases hs
noncomputable def rev20_0 (tk : Tk) (es : List (List AV)) (now : Int) (most : Int) : Int := intOf ((es.getD (Int.toNat (0 : Int)) []).getD ((0 : Nat) + (1 : Nat)) AV.junk)
noncomputable def rev20_1 (tk : Tk) (es : List (List AV)) (now : Int) (most : Int) : Int := IntKind.u64.wrap (IntKind.u64.wrap now - IntKind.u64.wrap (rev20_0 tk es now most))
noncomputable def vev20_0 (tk : Tk) (es : List (List AV)) (now : Int) (most : Int) : Bool := bif bif (↑es.length : Int) == (0 : Int) then true else bif decide (most < (0 : Int)) then true else bif decide ((0 : Int) ≤ (0 : Int)) && decide ((0 : Int) < (↑es.length : Int)) then decide (now < rev20_0 tk es now most) else false then false else decide (rev20_1 tk es now most ≥ IntKind.u64.wrap most)
noncomputable def vev20_1 (tk : Tk) (es : List (List AV)) (now : Int) (most : Int) : Bool := bif bif (↑es.length : Int) == (0 : Int) then true else bif decide (most < (0 : Int)) then true else decide ((0 : Int) ≤ (0 : Int)) && decide ((0 : Int) < (↑es.length : Int)) then bif bif (↑es.length : Int) == (0 : Int) then true else bif decide (most < (0 : Int)) then true else bif decide ((0 : Int) ≤ (0 : Int)) && decide ((0 : Int) < (↑es.length : Int)) then decide (now < rev20_0 tk es now most) else false then true else bif decide ((0 : Int) ≤ (0 : Int)) && decide ((0 : Int) < (↑es.length : Int)) then true else false else false
theorem ev20 (tk : Tk) (es : List (List AV)) (now : Int) (most : Int) : evFin (cfg Try.prog tab 100000 (gk k19 30) noLsp 20 ([] : List Blk).length Try.f20.ntmps) ([] : List Blk).length Try.f20.resultTypes.toList Try.f20 [.sl tk [.sl [.int .u16, .int .u32], .int .i64] es, .int .i64 now, .int .i64 most] [] = bif vev20_1 tk es now most then some (true, AV.bool (vev20_0 tk es now most), []) else none := by
  have h : evFin (cfg Try.prog tab 100000 (gk k19 30) noLsp 20 ([] : List Blk).length Try.f20.ntmps) ([] : List Blk).length Try.f20.resultTypes.toList Try.f20 [.sl tk [.sl [.int .u16, .int .u32], .int .i64] es, .int .i64 now, .int .i64 most] [] = bif bif (↑es.length : Int) == (0 : Int) then true else bif bif false then true else decide (most < (0 : Int)) then true else bif decide ((0 : Int) ≤ (0 : Int)) && decide ((0 : Int) < (↑es.length : Int)) then true else false then bif bif (↑es.length : Int) == (0 : Int) then true else bif bif false then true else decide (most < (0 : Int)) then true else bif decide ((0 : Int) ≤ (0 : Int)) && decide ((0 : Int) < (↑es.length : Int)) then bif false then true else decide (now < rev20_0 tk es now most) else false then some (true, AV.bool false, []) else bif decide ((0 : Int) ≤ (0 : Int)) && decide ((0 : Int) < (↑es.length : Int)) then some (true, AV.bool (decide (rev20_1 tk es now most ≥ IntKind.u64.wrap most)), []) else none else none := by kernel_rfl
  rw [h]
  clear h
  unfold vev20_0 vev20_1
  generalize (decide ((0 : Int) ≤ (0 : Int)) && decide ((0 : Int) < (↑es.length : Int))) = c0
  generalize (decide (now < rev20_0 tk es now most)) = c1
  generalize (decide (most < (0 : Int))) = c2
  generalize ((↑es.length : Int) == (0 : Int)) = c3
  cases c3
  · skip
    cases c2
    · skip
      cases c0
      · skip
        rfl
      · skip
        cases c1
        · skip
          rfl
        · skip
          rfl
    · skip
      rfl
  · skip
    rfl
-- spec vev20_1 tk es now most ;; (true, AV.bool (vev20_0 tk es now most), [])
noncomputable def sp20 : List AV → List Blk → Option (Bool × AV × List Blk)
  | [.sl tk [.sl [.int .u16, .int .u32], .int .i64] es, .int .i64 now, .int .i64 most], [] => spW (vev20_1 tk es now most) (some ((true, AV.bool (vev20_0 tk es now most), [])))
  | _, _ => none
noncomputable def k20 : Gam := fun f T C => match Nat.beq f 20 with
  | true => (sp20 T C).or (k19 f T C)
  | false => k19 f T C
theorem k20_ok : GamOK Try.prog k20 := by
  intro f T C r outs h
  unfold k20 at h
  cases hf : Nat.beq f 20 with
  | false => rw [hf] at h; exact k19_ok f T C r outs h
  | true =>
    have hf' := Nat.eq_of_beq_eq_true hf
    subst hf'
    rw [hf] at h
    dsimp only at h
    cases hs : sp20 T C with
    | none => rw [hs] at h; exact k19_ok _ T C r outs h
    | some x =>
      rw [hs] at h
      have hx : x = (true, r, outs) := by simpa using h
      subst hx
      unfold sp20 at hs
      split at hs
      · rename_i tk es now most
        obtain ⟨hb, rfl, rfl⟩ := spT_inv hs
        have he := ev20 tk es now most
        rw [hb, cond_true] at he
        obtain ⟨r0, o0, h0, he⟩ := evFin_inv he
        obtain ⟨h1, h2⟩ := fn_ok mixed plain (gk_ok k19_ok 30) Try.func20 (fun c _ => LoopsOK.none (fun _ _ => rfl) c) h0
        exact ⟨h1, h2.fin he⟩
      · cases hs
noncomputable def rn36_6_0 (t0k : Tk) (t0 : List (List AV)) (t1 : Int) (t6 : Int) (t7 : Int) (b1 : List (List AV)) : List (List AV) := elsO ((t0.getD t6.toNat []).getD (0 : Nat) AV.junk)
noncomputable def rn36_6_1 (t0k : Tk) (t0 : List (List AV)) (t1 : Int) (t6 : Int) (t7 : Int) (b1 : List (List AV)) : Int := (↑(rn36_6_0 t0k t0 t1 t6 t7 b1).length : Int)
noncomputable def rn36_6_2 (t0k : Tk) (t0 : List (List AV)) (t1 : Int) (t6 : Int) (t7 : Int) (b1 : List (List AV)) : List (List AV) := [[AV.int IntKind.i64 (IntKind.i64.wrap (intOf (((rn36_6_0 t0k t0 t1 t6 t7 b1).getD t7.toNat []).getD ((0 : Nat) + (1 : Nat)) AV.junk)))]]
noncomputable def go36_6 (t0k : Tk) (t0 : List (List AV)) (t1 : Int) (t6 : Int) (t7 : Int) (b1 : List (List AV)) : Bool := bif decide ((0 : Int) ≤ t6) && decide (t6 < (↑t0.length : Int)) then bif decide (t7 < rn36_6_1 t0k t0 t1 t6 t7 b1) then bif decide ((0 : Int) ≤ t7) && decide (t7 < rn36_6_1 t0k t0 t1 t6 t7 b1) then bif intOf (((rn36_6_0 t0k t0 t1 t6 t7 b1).getD t7.toNat []).getD (0 : Nat) AV.junk) == t1 then bif decide ((b1.length + (rn36_6_2 t0k t0 t1 t6 t7 b1).length) * (8 : Nat) ≤ (140737488355328 : Nat)) then decide (b1.length + (rn36_6_2 t0k t0 t1 t6 t7 b1).length ≤ (9223372036854775807 : Nat)) else false else true else false else false else false
noncomputable def nx36_6_4 (t0k : Tk) (t0 : List (List AV)) (t1 : Int) (t6 : Int) (t7 : Int) (b1 : List (List AV)) : Int := IntKind.i64.wrap (t7 + (1 : Int))
noncomputable def nx36_6_5 (t0k : Tk) (t0 : List (List AV)) (t1 : Int) (t6 : Int) (t7 : Int) (b1 : List (List AV)) : List (List AV) := bif intOf (((rn36_6_0 t0k t0 t1 t6 t7 b1).getD t7.toNat []).getD (0 : Nat) AV.junk) == t1 then b1 ++ rn36_6_2 t0k t0 t1 t6 t7 b1 else b1
noncomputable def xc36_6_0 (t0k : Tk) (t0 : List (List AV)) (t1 : Int) (t6 : Int) (t7 : Int) (b1 : List (List AV)) : Bool := bif decide ((0 : Int) ≤ t6) && decide (t6 < (↑t0.length : Int)) then bif decide (t7 < rn36_6_1 t0k t0 t1 t6 t7 b1) then false else true else false
theorem rd36_6 (rest : Lsp) (t0k : Tk) (t0 : List (List AV)) (t1 : Int) (t6 : Int) (t7 : Int) (b1 : List (List AV)) : roundV (cfg Try.prog tab 100000 (gk k20 30) rest 36 0 Try.f36.ntmps) (loopAt Try.f36 6) [0, 1, 5, 6, 7] [0, 1] [0, 1, 5, 6] [0, 1] [AV.sl t0k [Kd.sl [Kd.int IntKind.u16, Kd.int IntKind.u32], Kd.int IntKind.i64] t0, AV.int IntKind.u16 t1, AV.rf (nat_lit 1) [Kd.int IntKind.i64], AV.int IntKind.i64 t6, AV.int IntKind.i64 t7] [Blk.dead, Blk.row [Kd.int IntKind.i64] b1] = bif go36_6 t0k t0 t1 t6 t7 b1 then some (Ex.norm, [AV.sl t0k [Kd.sl [Kd.int IntKind.u16, Kd.int IntKind.u32], Kd.int IntKind.i64] t0, AV.int IntKind.u16 t1, AV.rf (nat_lit 1) [Kd.int IntKind.i64], AV.int IntKind.i64 t6, AV.int IntKind.i64 (nx36_6_4 t0k t0 t1 t6 t7 b1)], [Blk.dead, Blk.row [Kd.int IntKind.i64] (nx36_6_5 t0k t0 t1 t6 t7 b1)]) else bif xc36_6_0 t0k t0 t1 t6 t7 b1 then some (Ex.exit (nat_lit 2), [AV.sl t0k [Kd.sl [Kd.int IntKind.u16, Kd.int IntKind.u32], Kd.int IntKind.i64] t0, AV.int IntKind.u16 t1, AV.rf (nat_lit 1) [Kd.int IntKind.i64], AV.int IntKind.i64 t6], [Blk.dead, Blk.row [Kd.int IntKind.i64] b1]) else none := by
  have h : roundV (cfg Try.prog tab 100000 (gk k20 30) rest 36 0 Try.f36.ntmps) (loopAt Try.f36 6) [0, 1, 5, 6, 7] [0, 1] [0, 1, 5, 6] [0, 1] [AV.sl t0k [Kd.sl [Kd.int IntKind.u16, Kd.int IntKind.u32], Kd.int IntKind.i64] t0, AV.int IntKind.u16 t1, AV.rf (nat_lit 1) [Kd.int IntKind.i64], AV.int IntKind.i64 t6, AV.int IntKind.i64 t7] [Blk.dead, Blk.row [Kd.int IntKind.i64] b1] = bif decide ((0 : Int) ≤ t6) && decide (t6 < (↑t0.length : Int)) then bif decide (t7 < rn36_6_1 t0k t0 t1 t6 t7 b1) then bif decide ((0 : Int) ≤ t6) && decide (t6 < (↑t0.length : Int)) then bif decide ((0 : Int) ≤ t7) && decide (t7 < rn36_6_1 t0k t0 t1 t6 t7 b1) then bif intOf (((rn36_6_0 t0k t0 t1 t6 t7 b1).getD t7.toNat []).getD (0 : Nat) AV.junk) == t1 then bif decide ((0 : Int) ≤ t6) && decide (t6 < (↑t0.length : Int)) then bif decide ((0 : Int) ≤ t7) && decide (t7 < rn36_6_1 t0k t0 t1 t6 t7 b1) then bif bif decide ((b1.length + (rn36_6_2 t0k t0 t1 t6 t7 b1).length) * (8 : Nat) ≤ (140737488355328 : Nat)) then decide (b1.length + (rn36_6_2 t0k t0 t1 t6 t7 b1).length ≤ (9223372036854775807 : Nat)) else false then some (Ex.norm, [AV.sl t0k [Kd.sl [Kd.int IntKind.u16, Kd.int IntKind.u32], Kd.int IntKind.i64] t0, AV.int IntKind.u16 t1, AV.rf (nat_lit 1) [Kd.int IntKind.i64], AV.int IntKind.i64 t6, AV.int IntKind.i64 (IntKind.i64.wrap (t7 + (1 : Int)))], [Blk.dead, Blk.row [Kd.int IntKind.i64] (b1 ++ rn36_6_2 t0k t0 t1 t6 t7 b1)]) else none else none else none else some (Ex.norm, [AV.sl t0k [Kd.sl [Kd.int IntKind.u16, Kd.int IntKind.u32], Kd.int IntKind.i64] t0, AV.int IntKind.u16 t1, AV.rf (nat_lit 1) [Kd.int IntKind.i64], AV.int IntKind.i64 t6, AV.int IntKind.i64 (IntKind.i64.wrap (t7 + (1 : Int)))], [Blk.dead, Blk.row [Kd.int IntKind.i64] b1]) else none else none else some (Ex.exit (nat_lit 2), [AV.sl t0k [Kd.sl [Kd.int IntKind.u16, Kd.int IntKind.u32], Kd.int IntKind.i64] t0, AV.int IntKind.u16 t1, AV.rf (nat_lit 1) [Kd.int IntKind.i64], AV.int IntKind.i64 t6], [Blk.dead, Blk.row [Kd.int IntKind.i64] b1]) else none := by kernel_rfl
  rw [h]
  clear h
  unfold go36_6 nx36_6_4 nx36_6_5 xc36_6_0
  generalize (decide ((b1.length + (rn36_6_2 t0k t0 t1 t6 t7 b1).length) * (8 : Nat) ≤ (140737488355328 : Nat))) = c0
  generalize (decide (b1.length + (rn36_6_2 t0k t0 t1 t6 t7 b1).length ≤ (9223372036854775807 : Nat))) = c1
  generalize (decide ((0 : Int) ≤ t6) && decide (t6 < (↑t0.length : Int))) = c2
  generalize (decide ((0 : Int) ≤ t7) && decide (t7 < rn36_6_1 t0k t0 t1 t6 t7 b1)) = c3
  generalize (intOf (((rn36_6_0 t0k t0 t1 t6 t7 b1).getD t7.toNat []).getD (0 : Nat) AV.junk) == t1) = c4
  generalize (decide (t7 < rn36_6_1 t0k t0 t1 t6 t7 b1)) = c5
  cases c2
  · skip
    rfl
  · skip
    cases c5
    · skip
      rfl
    · skip
      cases c3
      · skip
        rfl
      · skip
        cases c4
        · skip
          rfl
        · skip
          cases c0
          · skip
            rfl
          · skip
            cases c1
            · skip
              rfl
            · skip
              rfl
abbrev pl36_6 : Type := Tk × (List (List AV)) × Int × Int
abbrev sl36_6 : Type := Int × (List (List AV))
noncomputable def vt36_6 (a : pl36_6 × sl36_6) : List AV := [AV.sl a.1.1 [Kd.sl [Kd.int IntKind.u16, Kd.int IntKind.u32], Kd.int IntKind.i64] a.1.2.1, AV.int IntKind.u16 a.1.2.2.1, AV.rf (nat_lit 1) [Kd.int IntKind.i64], AV.int IntKind.i64 a.1.2.2.2, AV.int IntKind.i64 a.2.1]
noncomputable def vc36_6 (a : pl36_6 × sl36_6) : List Blk := [Blk.dead, Blk.row [Kd.int IntKind.i64] a.2.2]
noncomputable def de36_6 (vt : List AV) (vc : List Blk) : Option (pl36_6 × sl36_6) :=
  match vt with
  | [qa0, qa1, qa2, qa3, qa4] => (match vc with
  | [qb0, qb1] => (match qa0 with
  | AV.sl t0k [Kd.sl [Kd.int IntKind.u16, Kd.int IntKind.u32], Kd.int IntKind.i64] t0 => (match qa1 with
  | AV.int IntKind.u16 t1 => (match qa2 with
  | AV.rf (1) [Kd.int IntKind.i64] => (match qa3 with
  | AV.int IntKind.i64 t6 => (match qa4 with
  | AV.int IntKind.i64 t7 => (match qb0 with
  | Blk.dead => (match qb1 with
  | Blk.row [Kd.int IntKind.i64] b1 => (some ((t0k, t0, t1, t6), (t7, b1)))
  | _ => none)
  | _ => none)
  | _ => none)
  | _ => none)
  | _ => none)
  | _ => none)
  | _ => none)
  | _ => none)
  | _ => none
theorem de36_6_ok (vt : List AV) (vc : List Blk) (a : pl36_6 × sl36_6) (h : de36_6 vt vc = some a) : vt = vt36_6 a ∧ vc = vc36_6 a := by
  unfold de36_6 at h
  split at h
  rotate_left
  · cases h
  split at h
  rotate_left
  · cases h
  split at h
  rotate_left
  · cases h
  split at h
  rotate_left
  · cases h
  split at h
  rotate_left
  · cases h
  split at h
  rotate_left
  · cases h
  split at h
  rotate_left
  · cases h
  split at h
  rotate_left
  · cases h
  split at h
  rotate_left
  · cases h
  injection h with h
  subst h
  exact ⟨rfl, rfl⟩
noncomputable def g36_6 (p : pl36_6) (s : sl36_6) : Bool := go36_6 p.1 p.2.1 p.2.2.1 p.2.2.2 s.1 s.2
noncomputable def n36_6 (p : pl36_6) (s : sl36_6) : sl36_6 := (nx36_6_4 p.1 p.2.1 p.2.2.1 p.2.2.2 s.1 s.2, nx36_6_5 p.1 p.2.1 p.2.2.1 p.2.2.2 s.1 s.2)
noncomputable def y36_6 (p : pl36_6) (s : sl36_6) : List (Bool × Out) := []
noncomputable def z36_6 (p : pl36_6) (s : sl36_6) : Bool := xc36_6_0 p.1 p.2.1 p.2.2.1 p.2.2.2 s.1 s.2
noncomputable def d36_6 (p : pl36_6) (s : sl36_6) : Out := (Ex.exit (nat_lit 2), [AV.sl p.1 [Kd.sl [Kd.int IntKind.u16, Kd.int IntKind.u32], Kd.int IntKind.i64] p.2.1, AV.int IntKind.u16 p.2.2.1, AV.rf (nat_lit 1) [Kd.int IntKind.i64], AV.int IntKind.i64 p.2.2.2], [Blk.dead, Blk.row [Kd.int IntKind.i64] s.2])
noncomputable def ls36_6 : St → Option (Bool × List (Bool × Ex × St) × Ex × St) := lspOf [0, 1, 5, 6, 7] [0, 1] [0, 1, 5, 6] [0, 1] Try.f36.ntmps (0 + tab.nid 36) de36_6 (spI g36_6 n36_6 y36_6 z36_6 d36_6)
theorem lo36_6 (rest : Lsp) : LoopOK1 (cfg Try.prog tab 100000 (gk k20 30) (selL 6 ls36_6 rest) 36 0 Try.f36.ntmps) (loopAt Try.f36 6) := LoopOK1.iter (i := 6) (by kernel_rfl) [0, 1, 5, 6, 7] [0, 1] [0, 1, 5, 6] [0, 1] vt36_6 vc36_6 de36_6 g36_6 n36_6 y36_6 z36_6 d36_6 (fun _ => rfl) de36_6_ok (fun p s => rd36_6 (selL 6 ls36_6 rest) (p.1) (p.2.1) (p.2.2.1) (p.2.2.2) (s.1) (s.2)) (fun _ _ => rfl)
noncomputable def rn36_3_0 (t0k : Tk) (t0 : List (List AV)) (t1 : Int) (t6 : Int) (b1 : List (List AV)) : sl36_6 := finL (g36_6 (t0k, t0, t1, t6)) (n36_6 (t0k, t0, t1, t6)) ((0 : Int), b1)
noncomputable def go36_3 (t0k : Tk) (t0 : List (List AV)) (t1 : Int) (t6 : Int) (b1 : List (List AV)) : Bool := bif decide (t6 < (↑t0.length : Int)) then (spI g36_6 n36_6 y36_6 z36_6 d36_6 ((t0k, t0, t1, t6), (0 : Int), b1)).fst else false
noncomputable def nx36_3_3 (t0k : Tk) (t0 : List (List AV)) (t1 : Int) (t6 : Int) (b1 : List (List AV)) : Int := IntKind.i64.wrap (t6 + (1 : Int))
noncomputable def nx36_3_4 (t0k : Tk) (t0 : List (List AV)) (t1 : Int) (t6 : Int) (b1 : List (List AV)) : List (List AV) := (rn36_3_0 t0k t0 t1 t6 b1).snd
noncomputable def xc36_3_0 (t0k : Tk) (t0 : List (List AV)) (t1 : Int) (t6 : Int) (b1 : List (List AV)) : Bool := bif decide (t6 < (↑t0.length : Int)) then false else true
theorem rd36_3 (rest : Lsp) (t0k : Tk) (t0 : List (List AV)) (t1 : Int) (t6 : Int) (b1 : List (List AV)) : roundV (cfg Try.prog tab 100000 (gk k20 30) (selL 6 ls36_6 rest) 36 0 Try.f36.ntmps) (loopAt Try.f36 3) [0, 1, 5, 6] [0, 1] [5] [0, 1] [AV.sl t0k [Kd.sl [Kd.int IntKind.u16, Kd.int IntKind.u32], Kd.int IntKind.i64] t0, AV.int IntKind.u16 t1, AV.rf (nat_lit 1) [Kd.int IntKind.i64], AV.int IntKind.i64 t6] [Blk.dead, Blk.row [Kd.int IntKind.i64] b1] = bif go36_3 t0k t0 t1 t6 b1 then some (Ex.norm, [AV.sl t0k [Kd.sl [Kd.int IntKind.u16, Kd.int IntKind.u32], Kd.int IntKind.i64] t0, AV.int IntKind.u16 t1, AV.rf (nat_lit 1) [Kd.int IntKind.i64], AV.int IntKind.i64 (nx36_3_3 t0k t0 t1 t6 b1)], [Blk.dead, Blk.row [Kd.int IntKind.i64] (nx36_3_4 t0k t0 t1 t6 b1)]) else bif xc36_3_0 t0k t0 t1 t6 b1 then some (Ex.exit (nat_lit 0), [AV.rf (nat_lit 1) [Kd.int IntKind.i64]], [Blk.dead, Blk.row [Kd.int IntKind.i64] b1]) else none := by
  have h : roundV (cfg Try.prog tab 100000 (gk k20 30) (selL 6 ls36_6 rest) 36 0 Try.f36.ntmps) (loopAt Try.f36 3) [0, 1, 5, 6] [0, 1] [5] [0, 1] [AV.sl t0k [Kd.sl [Kd.int IntKind.u16, Kd.int IntKind.u32], Kd.int IntKind.i64] t0, AV.int IntKind.u16 t1, AV.rf (nat_lit 1) [Kd.int IntKind.i64], AV.int IntKind.i64 t6] [Blk.dead, Blk.row [Kd.int IntKind.i64] b1] = bif decide (t6 < (↑t0.length : Int)) then bif (spI g36_6 n36_6 y36_6 z36_6 d36_6 ((t0k, t0, t1, t6), (0 : Int), b1)).fst then some (Ex.norm, [AV.sl t0k [Kd.sl [Kd.int IntKind.u16, Kd.int IntKind.u32], Kd.int IntKind.i64] t0, AV.int IntKind.u16 t1, AV.rf (nat_lit 1) [Kd.int IntKind.i64], AV.int IntKind.i64 (IntKind.i64.wrap (t6 + (1 : Int)))], [Blk.dead, Blk.row [Kd.int IntKind.i64] (rn36_3_0 t0k t0 t1 t6 b1).snd]) else none else some (Ex.exit (nat_lit 0), [AV.rf (nat_lit 1) [Kd.int IntKind.i64]], [Blk.dead, Blk.row [Kd.int IntKind.i64] b1]) := by kernel_rfl
  rw [h]
  clear h
  unfold go36_3 nx36_3_3 nx36_3_4 xc36_3_0
  generalize ((spI g36_6 n36_6 y36_6 z36_6 d36_6 ((t0k, t0, t1, t6), (0 : Int), b1)).fst) = c0
  generalize (decide (t6 < (↑t0.length : Int))) = c1
  cases c1
  · skip
    rfl
  · skip
    cases c0
    · skip
      rfl
    · skip
      rfl
abbrev pl36_3 : Type := Tk × (List (List AV)) × Int
abbrev sl36_3 : Type := Int × (List (List AV))
noncomputable def vt36_3 (a : pl36_3 × sl36_3) : List AV := [AV.sl a.1.1 [Kd.sl [Kd.int IntKind.u16, Kd.int IntKind.u32], Kd.int IntKind.i64] a.1.2.1, AV.int IntKind.u16 a.1.2.2, AV.rf (nat_lit 1) [Kd.int IntKind.i64], AV.int IntKind.i64 a.2.1]
noncomputable def vc36_3 (a : pl36_3 × sl36_3) : List Blk := [Blk.dead, Blk.row [Kd.int IntKind.i64] a.2.2]
noncomputable def de36_3 (vt : List AV) (vc : List Blk) : Option (pl36_3 × sl36_3) :=
  match vt with
  | [qa0, qa1, qa2, qa3] => (match vc with
  | [qb0, qb1] => (match qa0 with
  | AV.sl t0k [Kd.sl [Kd.int IntKind.u16, Kd.int IntKind.u32], Kd.int IntKind.i64] t0 => (match qa1 with
  | AV.int IntKind.u16 t1 => (match qa2 with
  | AV.rf (1) [Kd.int IntKind.i64] => (match qa3 with
  | AV.int IntKind.i64 t6 => (match qb0 with
  | Blk.dead => (match qb1 with
  | Blk.row [Kd.int IntKind.i64] b1 => (some ((t0k, t0, t1), (t6, b1)))
  | _ => none)
  | _ => none)
  | _ => none)
  | _ => none)
  | _ => none)
  | _ => none)
  | _ => none)
  | _ => none
theorem de36_3_ok (vt : List AV) (vc : List Blk) (a : pl36_3 × sl36_3) (h : de36_3 vt vc = some a) : vt = vt36_3 a ∧ vc = vc36_3 a := by
  unfold de36_3 at h
  split at h
  rotate_left
  · cases h
  split at h
  rotate_left
  · cases h
  split at h
  rotate_left
  · cases h
  split at h
  rotate_left
  · cases h
  split at h
  rotate_left
  · cases h
  split at h
  rotate_left
  · cases h
  split at h
  rotate_left
  · cases h
  split at h
  rotate_left
  · cases h
  injection h with h
  subst h
  exact ⟨rfl, rfl⟩
noncomputable def g36_3 (p : pl36_3) (s : sl36_3) : Bool := go36_3 p.1 p.2.1 p.2.2 s.1 s.2
noncomputable def n36_3 (p : pl36_3) (s : sl36_3) : sl36_3 := (nx36_3_3 p.1 p.2.1 p.2.2 s.1 s.2, nx36_3_4 p.1 p.2.1 p.2.2 s.1 s.2)
noncomputable def y36_3 (p : pl36_3) (s : sl36_3) : List (Bool × Out) := []
noncomputable def z36_3 (p : pl36_3) (s : sl36_3) : Bool := xc36_3_0 p.1 p.2.1 p.2.2 s.1 s.2
noncomputable def d36_3 (p : pl36_3) (s : sl36_3) : Out := (Ex.exit (nat_lit 0), [AV.rf (nat_lit 1) [Kd.int IntKind.i64]], [Blk.dead, Blk.row [Kd.int IntKind.i64] s.2])
noncomputable def ls36_3 : St → Option (Bool × List (Bool × Ex × St) × Ex × St) := lspOf [0, 1, 5, 6] [0, 1] [5] [0, 1] Try.f36.ntmps (0 + tab.nid 36) de36_3 (spI g36_3 n36_3 y36_3 z36_3 d36_3)
theorem lo36_3 (rest : Lsp) : LoopOK1 (cfg Try.prog tab 100000 (gk k20 30) (selL 6 ls36_6 (selL 3 ls36_3 rest)) 36 0 Try.f36.ntmps) (loopAt Try.f36 3) := LoopOK1.iter (i := 3) (by kernel_rfl) [0, 1, 5, 6] [0, 1] [5] [0, 1] vt36_3 vc36_3 de36_3 g36_3 n36_3 y36_3 z36_3 d36_3 (fun _ => rfl) de36_3_ok (fun p s => rd36_3 (selL 3 ls36_3 rest) (p.1) (p.2.1) (p.2.2) (s.1) (s.2)) (fun _ _ => rfl)
noncomputable def lsp36 : Lsp := (selL 6 ls36_6 (selL 3 ls36_3 noLsp))
theorem loops36 : ∀ c, Try.f36.body = some c → LoopsOK (cfg Try.prog tab 100000 (gk k20 30) lsp36 36 0 Try.f36.ntmps) c := loops_of [3, 6] (by kernel_rfl) (by kernel_rfl) (fun i hi => by
  simp only [List.mem_cons, List.not_mem_nil, or_false] at hi
  rcases hi with rfl | rfl
  · exact lo36_3 noLsp
  · exact lo36_6 (selL 3 ls36_3 noLsp))
noncomputable def rev36_0 (tk : Tk) (es : List (List AV)) (id : Int) : sl36_3 := finL (g36_3 (tk, es, id)) (n36_3 (tk, es, id)) ((0 : Int), [])
noncomputable def vev36_0 (tk : Tk) (es : List (List AV)) (id : Int) : List (List AV) := (rev36_0 tk es id).snd
noncomputable def vev36_1 (tk : Tk) (es : List (List AV)) (id : Int) : Bool := bif (spI g36_3 n36_3 y36_3 z36_3 d36_3 ((tk, es, id), (0 : Int), [])).fst then true else false
theorem ev36 (tk : Tk) (es : List (List AV)) (id : Int) : evFin (cfg Try.prog tab 100000 (gk k20 30) lsp36 36 ([] : List Blk).length Try.f36.ntmps) ([] : List Blk).length Try.f36.resultTypes.toList Try.f36 [.sl tk [.sl [.int .u16, .int .u32], .int .i64] es, .int .u16 id] [] = bif vev36_1 tk es id then some (true, AV.sl Tk.imm [Kd.int IntKind.i64] (vev36_0 tk es id), []) else none := by
  have h : evFin (cfg Try.prog tab 100000 (gk k20 30) lsp36 36 ([] : List Blk).length Try.f36.ntmps) ([] : List Blk).length Try.f36.resultTypes.toList Try.f36 [.sl tk [.sl [.int .u16, .int .u32], .int .i64] es, .int .u16 id] [] = bif (spI g36_3 n36_3 y36_3 z36_3 d36_3 ((tk, es, id), (0 : Int), [])).fst then some (true, AV.sl Tk.imm [Kd.int IntKind.i64] (rev36_0 tk es id).snd, []) else none := by kernel_rfl
  rw [h]
  clear h
  unfold vev36_0 vev36_1
  generalize ((spI g36_3 n36_3 y36_3 z36_3 d36_3 ((tk, es, id), (0 : Int), [])).fst) = c0
  cases c0
  · skip
    rfl
  · skip
    rfl
-- spec vev36_1 tk es id ;; (true, AV.sl Tk.imm [Kd.int IntKind.i64] (vev36_0 tk es id), [])
noncomputable def sp36 : List AV → List Blk → Option (Bool × AV × List Blk)
  | [.sl tk [.sl [.int .u16, .int .u32], .int .i64] es, .int .u16 id], [] => spW (vev36_1 tk es id) (some ((true, AV.sl Tk.imm [Kd.int IntKind.i64] (vev36_0 tk es id), [])))
  | _, _ => none
noncomputable def k36 : Gam := fun f T C => match Nat.beq f 36 with
  | true => (sp36 T C).or (k20 f T C)
  | false => k20 f T C
theorem k36_ok : GamOK Try.prog k36 := by
  intro f T C r outs h
  unfold k36 at h
  cases hf : Nat.beq f 36 with
  | false => rw [hf] at h; exact k20_ok f T C r outs h
  | true =>
    have hf' := Nat.eq_of_beq_eq_true hf
    subst hf'
    rw [hf] at h
    dsimp only at h
    cases hs : sp36 T C with
    | none => rw [hs] at h; exact k20_ok _ T C r outs h
    | some x =>
      rw [hs] at h
      have hx : x = (true, r, outs) := by simpa using h
      subst hx
      unfold sp36 at hs
      split at hs
      · rename_i tk es id
        obtain ⟨hb, rfl, rfl⟩ := spT_inv hs
        have he := ev36 tk es id
        rw [hb, cond_true] at he
        obtain ⟨r0, o0, h0, he⟩ := evFin_inv he
        obtain ⟨h1, h2⟩ := fn_ok mixed plain (gk_ok k20_ok 30) Try.func36 loops36 h0
        exact ⟨h1, h2.fin he⟩
      · cases hs
noncomputable def rn22_3_0 (t2 : Int) (t7 : List (List AV)) (t8 : Int) : Int := intOf ((t7.getD t8.toNat []).getD (0 : Nat) AV.junk)
noncomputable def go22_3 (t2 : Int) (t7 : List (List AV)) (t8 : Int) : Bool := bif decide (t8 < (↑t7.length : Int)) then decide ((0 : Int) ≤ t8) && decide (t8 < (↑t7.length : Int)) else false
noncomputable def nx22_3_0 (t2 : Int) (t7 : List (List AV)) (t8 : Int) : Int := if if false = true then t2 < rn22_3_0 t2 t7 t8 else rn22_3_0 t2 t7 t8 < t2 then rn22_3_0 t2 t7 t8 else t2
noncomputable def nx22_3_2 (t2 : Int) (t7 : List (List AV)) (t8 : Int) : Int := IntKind.i64.wrap (t8 + (1 : Int))
noncomputable def xc22_3_0 (t2 : Int) (t7 : List (List AV)) (t8 : Int) : Bool := bif decide (t8 < (↑t7.length : Int)) then false else true
theorem rd22_3 (rest : Lsp) (t2 : Int) (t7 : List (List AV)) (t8 : Int) : roundV (cfg Try.prog tab 100000 (gk k36 30) rest 22 0 Try.f22.ntmps) (loopAt Try.f22 3) [2, 7, 8] [] [2] [] [AV.int IntKind.i64 t2, AV.sl Tk.imm [Kd.int IntKind.i64] t7, AV.int IntKind.i64 t8] [] = bif go22_3 t2 t7 t8 then some (Ex.norm, [AV.int IntKind.i64 (nx22_3_0 t2 t7 t8), AV.sl Tk.imm [Kd.int IntKind.i64] t7, AV.int IntKind.i64 (nx22_3_2 t2 t7 t8)], []) else bif xc22_3_0 t2 t7 t8 then some (Ex.exit (nat_lit 0), [AV.int IntKind.i64 t2], []) else none := by
  have h : roundV (cfg Try.prog tab 100000 (gk k36 30) rest 22 0 Try.f22.ntmps) (loopAt Try.f22 3) [2, 7, 8] [] [2] [] [AV.int IntKind.i64 t2, AV.sl Tk.imm [Kd.int IntKind.i64] t7, AV.int IntKind.i64 t8] [] = bif decide (t8 < (↑t7.length : Int)) then bif decide ((0 : Int) ≤ t8) && decide (t8 < (↑t7.length : Int)) then some (Ex.norm, [AV.int IntKind.i64 (if if false = true then t2 < rn22_3_0 t2 t7 t8 else rn22_3_0 t2 t7 t8 < t2 then rn22_3_0 t2 t7 t8 else t2), AV.sl Tk.imm [Kd.int IntKind.i64] t7, AV.int IntKind.i64 (IntKind.i64.wrap (t8 + (1 : Int)))], []) else none else some (Ex.exit (nat_lit 0), [AV.int IntKind.i64 t2], []) := by kernel_rfl
  rw [h]
  clear h
  unfold go22_3 nx22_3_0 nx22_3_2 xc22_3_0
  generalize (decide ((0 : Int) ≤ t8) && decide (t8 < (↑t7.length : Int))) = c0
  generalize (decide (t8 < (↑t7.length : Int))) = c1
  cases c1
  · skip
    rfl
  · skip
    cases c0
    · skip
      rfl
    · skip
      rfl
abbrev pl22_3 : Type := (List (List AV))
abbrev sl22_3 : Type := Int × Int
noncomputable def vt22_3 (a : pl22_3 × sl22_3) : List AV := [AV.int IntKind.i64 a.2.1, AV.sl Tk.imm [Kd.int IntKind.i64] a.1, AV.int IntKind.i64 a.2.2]
noncomputable def vc22_3 (a : pl22_3 × sl22_3) : List Blk := []
noncomputable def de22_3 (vt : List AV) (vc : List Blk) : Option (pl22_3 × sl22_3) :=
  match vt with
  | [qa0, qa1, qa2] => (match vc with
  | [] => (match qa0 with
  | AV.int IntKind.i64 t2 => (match qa1 with
  | AV.sl Tk.imm [Kd.int IntKind.i64] t7 => (match qa2 with
  | AV.int IntKind.i64 t8 => (some (t7, (t2, t8)))
  | _ => none)
  | _ => none)
  | _ => none)
  | _ => none)
  | _ => none
theorem de22_3_ok (vt : List AV) (vc : List Blk) (a : pl22_3 × sl22_3) (h : de22_3 vt vc = some a) : vt = vt22_3 a ∧ vc = vc22_3 a := by
  unfold de22_3 at h
  split at h
  rotate_left
  · cases h
  split at h
  rotate_left
  · cases h
  split at h
  rotate_left
  · cases h
  split at h
  rotate_left
  · cases h
  split at h
  rotate_left
  · cases h
  injection h with h
  subst h
  exact ⟨rfl, rfl⟩
noncomputable def g22_3 (p : pl22_3) (s : sl22_3) : Bool := go22_3 s.1 p s.2
noncomputable def n22_3 (p : pl22_3) (s : sl22_3) : sl22_3 := (nx22_3_0 s.1 p s.2, nx22_3_2 s.1 p s.2)
noncomputable def y22_3 (p : pl22_3) (s : sl22_3) : List (Bool × Out) := []
noncomputable def z22_3 (p : pl22_3) (s : sl22_3) : Bool := xc22_3_0 s.1 p s.2
noncomputable def d22_3 (p : pl22_3) (s : sl22_3) : Out := (Ex.exit (nat_lit 0), [AV.int IntKind.i64 s.1], [])
noncomputable def ls22_3 : St → Option (Bool × List (Bool × Ex × St) × Ex × St) := lspOf [2, 7, 8] [] [2] [] Try.f22.ntmps (0 + tab.nid 22) de22_3 (spI g22_3 n22_3 y22_3 z22_3 d22_3)
theorem lo22_3 (rest : Lsp) : LoopOK1 (cfg Try.prog tab 100000 (gk k36 30) (selL 3 ls22_3 rest) 22 0 Try.f22.ntmps) (loopAt Try.f22 3) := LoopOK1.iter (i := 3) (by kernel_rfl) [2, 7, 8] [] [2] [] vt22_3 vc22_3 de22_3 g22_3 n22_3 y22_3 z22_3 d22_3 (fun _ => rfl) de22_3_ok (fun p s => rd22_3 (selL 3 ls22_3 rest) (s.1) p (s.2)) (fun _ _ => rfl)
noncomputable def lsp22 : Lsp := (selL 3 ls22_3 noLsp)
theorem loops22 : ∀ c, Try.f22.body = some c → LoopsOK (cfg Try.prog tab 100000 (gk k36 30) lsp22 22 0 Try.f22.ntmps) c := loops_of [3] (by kernel_rfl) (by kernel_rfl) (fun i hi => by
  simp only [List.mem_cons, List.not_mem_nil, or_false] at hi
  subst hi
  · exact lo22_3 noLsp)
noncomputable def rev22_0 (tk : Tk) (es : List (List AV)) (id : Int) (held : Int) : sl22_3 := finL (g22_3 (vev36_0 tk es id)) (n22_3 (vev36_0 tk es id)) (held, (0 : Int))
noncomputable def vev22_0 (tk : Tk) (es : List (List AV)) (id : Int) (held : Int) : Int := (rev22_0 tk es id held).fst
noncomputable def vev22_1 (tk : Tk) (es : List (List AV)) (id : Int) (held : Int) : Bool := bif vev36_1 tk es id then bif (spI g22_3 n22_3 y22_3 z22_3 d22_3 (vev36_0 tk es id, held, (0 : Int))).fst then true else false else false
theorem ev22 (tk : Tk) (es : List (List AV)) (id : Int) (held : Int) : evFin (cfg Try.prog tab 100000 (gk k36 30) lsp22 22 ([] : List Blk).length Try.f22.ntmps) ([] : List Blk).length Try.f22.resultTypes.toList Try.f22 [.sl tk [.sl [.int .u16, .int .u32], .int .i64] es, .int .u16 id, .int .i64 held] [] = bif vev22_1 tk es id held then some (true, AV.int IntKind.i64 (vev22_0 tk es id held), []) else none := by
  have h : evFin (cfg Try.prog tab 100000 (gk k36 30) lsp22 22 ([] : List Blk).length Try.f22.ntmps) ([] : List Blk).length Try.f22.resultTypes.toList Try.f22 [.sl tk [.sl [.int .u16, .int .u32], .int .i64] es, .int .u16 id, .int .i64 held] [] = bif vev36_1 tk es id then bif (spI g22_3 n22_3 y22_3 z22_3 d22_3 (vev36_0 tk es id, held, (0 : Int))).fst then some (true, AV.int IntKind.i64 (rev22_0 tk es id held).fst, []) else none else none := by kernel_rfl
  rw [h]
  clear h
  unfold vev22_0 vev22_1
  generalize ((spI g22_3 n22_3 y22_3 z22_3 d22_3 (vev36_0 tk es id, held, (0 : Int))).fst) = c0
  generalize (vev36_1 tk es id) = c1
  cases c1
  · skip
    rfl
  · skip
    cases c0
    · skip
      rfl
    · skip
      rfl
-- spec vev22_1 tk es id held ;; (true, AV.int IntKind.i64 (vev22_0 tk es id held), [])
noncomputable def sp22 : List AV → List Blk → Option (Bool × AV × List Blk)
  | [.sl tk [.sl [.int .u16, .int .u32], .int .i64] es, .int .u16 id, .int .i64 held], [] => spW (vev22_1 tk es id held) (some ((true, AV.int IntKind.i64 (vev22_0 tk es id held), [])))
  | _, _ => none
noncomputable def k22 : Gam := fun f T C => match Nat.beq f 22 with
  | true => (sp22 T C).or (k36 f T C)
  | false => k36 f T C
theorem k22_ok : GamOK Try.prog k22 := by
  intro f T C r outs h
  unfold k22 at h
  cases hf : Nat.beq f 22 with
  | false => rw [hf] at h; exact k36_ok f T C r outs h
  | true =>
    have hf' := Nat.eq_of_beq_eq_true hf
    subst hf'
    rw [hf] at h
    dsimp only at h
    cases hs : sp22 T C with
    | none => rw [hs] at h; exact k36_ok _ T C r outs h
    | some x =>
      rw [hs] at h
      have hx : x = (true, r, outs) := by simpa using h
      subst hx
      unfold sp22 at hs
      split at hs
      · rename_i tk es id held
        obtain ⟨hb, rfl, rfl⟩ := spT_inv hs
        have he := ev22 tk es id held
        rw [hb, cond_true] at he
        obtain ⟨r0, o0, h0, he⟩ := evFin_inv he
        obtain ⟨h1, h2⟩ := fn_ok mixed plain (gk_ok k36_ok 30) Try.func22 loops22 h0
        exact ⟨h1, h2.fin he⟩
      · cases hs
noncomputable def rn24_3_0 (t2 : Int) (t7 : List (List AV)) (t8 : Int) : Int := intOf ((t7.getD t8.toNat []).getD (0 : Nat) AV.junk)
noncomputable def go24_3 (t2 : Int) (t7 : List (List AV)) (t8 : Int) : Bool := bif decide (t8 < (↑t7.length : Int)) then decide ((0 : Int) ≤ t8) && decide (t8 < (↑t7.length : Int)) else false
noncomputable def nx24_3_0 (t2 : Int) (t7 : List (List AV)) (t8 : Int) : Int := if if true = true then t2 < rn24_3_0 t2 t7 t8 else rn24_3_0 t2 t7 t8 < t2 then rn24_3_0 t2 t7 t8 else t2
noncomputable def nx24_3_2 (t2 : Int) (t7 : List (List AV)) (t8 : Int) : Int := IntKind.i64.wrap (t8 + (1 : Int))
noncomputable def xc24_3_0 (t2 : Int) (t7 : List (List AV)) (t8 : Int) : Bool := bif decide (t8 < (↑t7.length : Int)) then false else true
theorem rd24_3 (rest : Lsp) (t2 : Int) (t7 : List (List AV)) (t8 : Int) : roundV (cfg Try.prog tab 100000 (gk k22 30) rest 24 0 Try.f24.ntmps) (loopAt Try.f24 3) [2, 7, 8] [] [2] [] [AV.int IntKind.i64 t2, AV.sl Tk.imm [Kd.int IntKind.i64] t7, AV.int IntKind.i64 t8] [] = bif go24_3 t2 t7 t8 then some (Ex.norm, [AV.int IntKind.i64 (nx24_3_0 t2 t7 t8), AV.sl Tk.imm [Kd.int IntKind.i64] t7, AV.int IntKind.i64 (nx24_3_2 t2 t7 t8)], []) else bif xc24_3_0 t2 t7 t8 then some (Ex.exit (nat_lit 0), [AV.int IntKind.i64 t2], []) else none := by
  have h : roundV (cfg Try.prog tab 100000 (gk k22 30) rest 24 0 Try.f24.ntmps) (loopAt Try.f24 3) [2, 7, 8] [] [2] [] [AV.int IntKind.i64 t2, AV.sl Tk.imm [Kd.int IntKind.i64] t7, AV.int IntKind.i64 t8] [] = bif decide (t8 < (↑t7.length : Int)) then bif decide ((0 : Int) ≤ t8) && decide (t8 < (↑t7.length : Int)) then some (Ex.norm, [AV.int IntKind.i64 (if if true = true then t2 < rn24_3_0 t2 t7 t8 else rn24_3_0 t2 t7 t8 < t2 then rn24_3_0 t2 t7 t8 else t2), AV.sl Tk.imm [Kd.int IntKind.i64] t7, AV.int IntKind.i64 (IntKind.i64.wrap (t8 + (1 : Int)))], []) else none else some (Ex.exit (nat_lit 0), [AV.int IntKind.i64 t2], []) := by kernel_rfl
  rw [h]
  clear h
  unfold go24_3 nx24_3_0 nx24_3_2 xc24_3_0
  generalize (decide ((0 : Int) ≤ t8) && decide (t8 < (↑t7.length : Int))) = c0
  generalize (decide (t8 < (↑t7.length : Int))) = c1
  cases c1
  · skip
    rfl
  · skip
    cases c0
    · skip
      rfl
    · skip
      rfl
abbrev pl24_3 : Type := (List (List AV))
abbrev sl24_3 : Type := Int × Int
noncomputable def vt24_3 (a : pl24_3 × sl24_3) : List AV := [AV.int IntKind.i64 a.2.1, AV.sl Tk.imm [Kd.int IntKind.i64] a.1, AV.int IntKind.i64 a.2.2]
noncomputable def vc24_3 (a : pl24_3 × sl24_3) : List Blk := []
noncomputable def de24_3 (vt : List AV) (vc : List Blk) : Option (pl24_3 × sl24_3) :=
  match vt with
  | [qa0, qa1, qa2] => (match vc with
  | [] => (match qa0 with
  | AV.int IntKind.i64 t2 => (match qa1 with
  | AV.sl Tk.imm [Kd.int IntKind.i64] t7 => (match qa2 with
  | AV.int IntKind.i64 t8 => (some (t7, (t2, t8)))
  | _ => none)
  | _ => none)
  | _ => none)
  | _ => none)
  | _ => none
theorem de24_3_ok (vt : List AV) (vc : List Blk) (a : pl24_3 × sl24_3) (h : de24_3 vt vc = some a) : vt = vt24_3 a ∧ vc = vc24_3 a := by
  unfold de24_3 at h
  split at h
  rotate_left
  · cases h
  split at h
  rotate_left
  · cases h
  split at h
  rotate_left
  · cases h
  split at h
  rotate_left
  · cases h
  split at h
  rotate_left
  · cases h
  injection h with h
  subst h
  exact ⟨rfl, rfl⟩
noncomputable def g24_3 (p : pl24_3) (s : sl24_3) : Bool := go24_3 s.1 p s.2
noncomputable def n24_3 (p : pl24_3) (s : sl24_3) : sl24_3 := (nx24_3_0 s.1 p s.2, nx24_3_2 s.1 p s.2)
noncomputable def y24_3 (p : pl24_3) (s : sl24_3) : List (Bool × Out) := []
noncomputable def z24_3 (p : pl24_3) (s : sl24_3) : Bool := xc24_3_0 s.1 p s.2
noncomputable def d24_3 (p : pl24_3) (s : sl24_3) : Out := (Ex.exit (nat_lit 0), [AV.int IntKind.i64 s.1], [])
noncomputable def ls24_3 : St → Option (Bool × List (Bool × Ex × St) × Ex × St) := lspOf [2, 7, 8] [] [2] [] Try.f24.ntmps (0 + tab.nid 24) de24_3 (spI g24_3 n24_3 y24_3 z24_3 d24_3)
theorem lo24_3 (rest : Lsp) : LoopOK1 (cfg Try.prog tab 100000 (gk k22 30) (selL 3 ls24_3 rest) 24 0 Try.f24.ntmps) (loopAt Try.f24 3) := LoopOK1.iter (i := 3) (by kernel_rfl) [2, 7, 8] [] [2] [] vt24_3 vc24_3 de24_3 g24_3 n24_3 y24_3 z24_3 d24_3 (fun _ => rfl) de24_3_ok (fun p s => rd24_3 (selL 3 ls24_3 rest) (s.1) p (s.2)) (fun _ _ => rfl)
noncomputable def lsp24 : Lsp := (selL 3 ls24_3 noLsp)
theorem loops24 : ∀ c, Try.f24.body = some c → LoopsOK (cfg Try.prog tab 100000 (gk k22 30) lsp24 24 0 Try.f24.ntmps) c := loops_of [3] (by kernel_rfl) (by kernel_rfl) (fun i hi => by
  simp only [List.mem_cons, List.not_mem_nil, or_false] at hi
  subst hi
  · exact lo24_3 noLsp)
noncomputable def rev24_0 (tk : Tk) (es : List (List AV)) (id : Int) (held : Int) : sl24_3 := finL (g24_3 (vev36_0 tk es id)) (n24_3 (vev36_0 tk es id)) (held, (0 : Int))
noncomputable def vev24_0 (tk : Tk) (es : List (List AV)) (id : Int) (held : Int) : Int := (rev24_0 tk es id held).fst
noncomputable def vev24_1 (tk : Tk) (es : List (List AV)) (id : Int) (held : Int) : Bool := bif vev36_1 tk es id then bif (spI g24_3 n24_3 y24_3 z24_3 d24_3 (vev36_0 tk es id, held, (0 : Int))).fst then true else false else false
theorem ev24 (tk : Tk) (es : List (List AV)) (id : Int) (held : Int) : evFin (cfg Try.prog tab 100000 (gk k22 30) lsp24 24 ([] : List Blk).length Try.f24.ntmps) ([] : List Blk).length Try.f24.resultTypes.toList Try.f24 [.sl tk [.sl [.int .u16, .int .u32], .int .i64] es, .int .u16 id, .int .i64 held] [] = bif vev24_1 tk es id held then some (true, AV.int IntKind.i64 (vev24_0 tk es id held), []) else none := by
  have h : evFin (cfg Try.prog tab 100000 (gk k22 30) lsp24 24 ([] : List Blk).length Try.f24.ntmps) ([] : List Blk).length Try.f24.resultTypes.toList Try.f24 [.sl tk [.sl [.int .u16, .int .u32], .int .i64] es, .int .u16 id, .int .i64 held] [] = bif vev36_1 tk es id then bif (spI g24_3 n24_3 y24_3 z24_3 d24_3 (vev36_0 tk es id, held, (0 : Int))).fst then some (true, AV.int IntKind.i64 (rev24_0 tk es id held).fst, []) else none else none := by kernel_rfl
  rw [h]
  clear h
  unfold vev24_0 vev24_1
  generalize ((spI g24_3 n24_3 y24_3 z24_3 d24_3 (vev36_0 tk es id, held, (0 : Int))).fst) = c0
  generalize (vev36_1 tk es id) = c1
  cases c1
  · skip
    rfl
  · skip
    cases c0
    · skip
      rfl
    · skip
      rfl
-- spec vev24_1 tk es id held ;; (true, AV.int IntKind.i64 (vev24_0 tk es id held), [])
noncomputable def sp24 : List AV → List Blk → Option (Bool × AV × List Blk)
  | [.sl tk [.sl [.int .u16, .int .u32], .int .i64] es, .int .u16 id, .int .i64 held], [] => spW (vev24_1 tk es id held) (some ((true, AV.int IntKind.i64 (vev24_0 tk es id held), [])))
  | _, _ => none
noncomputable def k24 : Gam := fun f T C => match Nat.beq f 24 with
  | true => (sp24 T C).or (k22 f T C)
  | false => k22 f T C
theorem k24_ok : GamOK Try.prog k24 := by
  intro f T C r outs h
  unfold k24 at h
  cases hf : Nat.beq f 24 with
  | false => rw [hf] at h; exact k22_ok f T C r outs h
  | true =>
    have hf' := Nat.eq_of_beq_eq_true hf
    subst hf'
    rw [hf] at h
    dsimp only at h
    cases hs : sp24 T C with
    | none => rw [hs] at h; exact k22_ok _ T C r outs h
    | some x =>
      rw [hs] at h
      have hx : x = (true, r, outs) := by simpa using h
      subst hx
      unfold sp24 at hs
      split at hs
      · rename_i tk es id held
        obtain ⟨hb, rfl, rfl⟩ := spT_inv hs
        have he := ev24 tk es id held
        rw [hb, cond_true] at he
        obtain ⟨r0, o0, h0, he⟩ := evFin_inv he
        obtain ⟨h1, h2⟩ := fn_ok mixed plain (gk_ok k22_ok 30) Try.func24 loops24 h0
        exact ⟨h1, h2.fin he⟩
      · cases hs
noncomputable def vev26_0 (tk : Tk) (es : List (List AV)) : Bool := bif (es.length * (32 : Nat)).ble (140737488355328 : Nat) then true else false
theorem ev26 (tk : Tk) (es : List (List AV)) : evFun (cfg Try.prog tab 100000 (gk k24 30) noLsp 26 ([] : List Blk).length Try.f26.ntmps) Try.f26 [.sl tk [.sl [.int .u16, .int .u32], .int .i64] es] [] = bif vev26_0 tk es then some (AV.rf (nat_lit 0) [Kd.sl [Kd.int IntKind.u16, Kd.int IntKind.u32], Kd.int IntKind.i64], [Blk.row [Kd.sl [Kd.int IntKind.u16, Kd.int IntKind.u32], Kd.int IntKind.i64] es]) else none := by
  have h : evFun (cfg Try.prog tab 100000 (gk k24 30) noLsp 26 ([] : List Blk).length Try.f26.ntmps) Try.f26 [.sl tk [.sl [.int .u16, .int .u32], .int .i64] es] [] = bif (es.length * (32 : Nat)).ble (140737488355328 : Nat) then some (AV.rf (nat_lit 0) [Kd.sl [Kd.int IntKind.u16, Kd.int IntKind.u32], Kd.int IntKind.i64], [Blk.row [Kd.sl [Kd.int IntKind.u16, Kd.int IntKind.u32], Kd.int IntKind.i64] es]) else none := by kernel_rfl
  rw [h]
  clear h
  unfold vev26_0
  generalize ((es.length * (32 : Nat)).ble (140737488355328 : Nat)) = c0
  cases c0
  · skip
    rfl
  · skip
    rfl
-- spec vev26_0 tk es ;; (AV.rf (nat_lit 0) [Kd.sl [Kd.int IntKind.u16, Kd.int IntKind.u32], Kd.int IntKind.i64], [Blk.row [Kd.sl [Kd.int IntKind.u16, Kd.int IntKind.u32], Kd.int IntKind.i64] es])
noncomputable def sp26 : List AV → List Blk → Option (Bool × AV × List Blk)
  | [.sl tk [.sl [.int .u16, .int .u32], .int .i64] es], [] => spW (vev26_0 tk es) (fin Try.prog (tab.frz 26) ([] : List Blk).length Try.f26.resultTypes.toList (some ((AV.rf (nat_lit 0) [Kd.sl [Kd.int IntKind.u16, Kd.int IntKind.u32], Kd.int IntKind.i64], [Blk.row [Kd.sl [Kd.int IntKind.u16, Kd.int IntKind.u32], Kd.int IntKind.i64] es]))))
  | _, _ => none
noncomputable def k26 : Gam := fun f T C => match Nat.beq f 26 with
  | true => (sp26 T C).or (k24 f T C)
  | false => k24 f T C
theorem k26_ok : GamOK Try.prog k26 := by
  intro f T C r outs h
  unfold k26 at h
  cases hf : Nat.beq f 26 with
  | false => rw [hf] at h; exact k24_ok f T C r outs h
  | true =>
    have hf' := Nat.eq_of_beq_eq_true hf
    subst hf'
    rw [hf] at h
    dsimp only at h
    cases hs : sp26 T C with
    | none => rw [hs] at h; exact k24_ok _ T C r outs h
    | some x =>
      rw [hs] at h
      have hx : x = (true, r, outs) := by simpa using h
      subst hx
      unfold sp26 at hs
      split at hs
      · rename_i tk es
        obtain ⟨hb, hs⟩ := spW_inv hs
        have he := ev26 tk es
        rw [hb, cond_true] at he
        obtain ⟨h1, h2⟩ := fn_ok mixed plain (gk_ok k24_ok 30) Try.func26 (fun c _ => LoopsOK.none (fun _ _ => rfl) c) he
        exact ⟨h1, h2.fin hs⟩
      · cases hs
noncomputable def rev12_0 (tk : Tk) (es : List (List AV)) : List (List AV) := List.drop (Int.toNat (1 : Int)) es
noncomputable def rev12_1 (tk : Tk) (es : List (List AV)) : List (List AV) := elsO ((es.getD (Int.toNat (0 : Int)) []).getD (0 : Nat) AV.junk)
noncomputable def vev12_0 (tk : Tk) (es : List (List AV)) : List (List AV) := bif (↑es.length : Int) == (0 : Int) then [] else rev12_0 tk es
noncomputable def vev12_1 (tk : Tk) (es : List (List AV)) : List (List AV) := bif (↑es.length : Int) == (0 : Int) then [] else rev12_1 tk es
noncomputable def vev12_2 (tk : Tk) (es : List (List AV)) : Bool := bif (↑es.length : Int) == (0 : Int) then false else true
noncomputable def vev12_3 (tk : Tk) (es : List (List AV)) : Bool := bif (↑es.length : Int) == (0 : Int) then true else bif bnd (1 : Int) (↑es.length : Int) (↑es.length : Int) then bif vev26_0 tk (rev12_0 tk es) then bif decide ((0 : Int) ≤ (0 : Int)) && decide ((0 : Int) < (↑es.length : Int)) then bif ((rev12_1 tk es).length * (8 : Nat)).ble (140737488355328 : Nat) then true else false else false else false else false
theorem ev12 (tk : Tk) (es : List (List AV)) : evFin (cfg Try.prog tab 100000 (gk k26 30) noLsp 12 ([] : List Blk).length Try.f12.ntmps) ([] : List Blk).length Try.f12.resultTypes.toList Try.f12 [.sl tk [.sl [.int .u16, .int .u32], .int .i64] es] [] = bif vev12_3 tk es then some (true, AV.tup [AV.sl Tk.imm [Kd.sl [Kd.int IntKind.u16, Kd.int IntKind.u32], Kd.int IntKind.i64] (vev12_0 tk es), AV.sl Tk.imm [Kd.int IntKind.u16, Kd.int IntKind.u32] (vev12_1 tk es), AV.bool (vev12_2 tk es)], []) else none := by
  have h : evFin (cfg Try.prog tab 100000 (gk k26 30) noLsp 12 ([] : List Blk).length Try.f12.ntmps) ([] : List Blk).length Try.f12.resultTypes.toList Try.f12 [.sl tk [.sl [.int .u16, .int .u32], .int .i64] es] [] = bif (↑es.length : Int) == (0 : Int) then some (true, AV.tup [AV.sl Tk.imm [Kd.sl [Kd.int IntKind.u16, Kd.int IntKind.u32], Kd.int IntKind.i64] [], AV.sl Tk.imm [Kd.int IntKind.u16, Kd.int IntKind.u32] [], AV.bool false], []) else bif bnd (1 : Int) (↑es.length : Int) (↑es.length : Int) then bif vev26_0 tk (rev12_0 tk es) then bif decide ((0 : Int) ≤ (0 : Int)) && decide ((0 : Int) < (↑es.length : Int)) then bif ((rev12_1 tk es).length * (8 : Nat)).ble (140737488355328 : Nat) then some (true, AV.tup [AV.sl Tk.imm [Kd.sl [Kd.int IntKind.u16, Kd.int IntKind.u32], Kd.int IntKind.i64] (rev12_0 tk es), AV.sl Tk.imm [Kd.int IntKind.u16, Kd.int IntKind.u32] (rev12_1 tk es), AV.bool true], []) else none else none else none else none := by kernel_rfl
  rw [h]
  clear h
  unfold vev12_0 vev12_1 vev12_2 vev12_3
  generalize (decide ((0 : Int) ≤ (0 : Int)) && decide ((0 : Int) < (↑es.length : Int))) = c0
  generalize (((rev12_1 tk es).length * (8 : Nat)).ble (140737488355328 : Nat)) = c1
  generalize (bnd (1 : Int) (↑es.length : Int) (↑es.length : Int)) = c2
  generalize ((↑es.length : Int) == (0 : Int)) = c3
  generalize (vev26_0 tk (rev12_0 tk es)) = c4
  cases c3
  · skip
    cases c2
    · skip
      rfl
    · skip
      cases c4
      · skip
        rfl
      · skip
        cases c0
        · skip
          rfl
        · skip
          cases c1
          · skip
            rfl
          · skip
            rfl
  · skip
    rfl
-- spec vev12_3 tk es ;; (true, AV.tup [AV.sl Tk.imm [Kd.sl [Kd.int IntKind.u16, Kd.int IntKind.u32], Kd.int IntKind.i64] (vev12_0 tk es), AV.sl Tk.imm [Kd.int IntKind.u16, Kd.int IntKind.u32] (vev12_1 tk es), AV.bool (vev12_2 tk es)], [])
noncomputable def sp12 : List AV → List Blk → Option (Bool × AV × List Blk)
  | [.sl tk [.sl [.int .u16, .int .u32], .int .i64] es], [] => spW (vev12_3 tk es) (some ((true, AV.tup [AV.sl Tk.imm [Kd.sl [Kd.int IntKind.u16, Kd.int IntKind.u32], Kd.int IntKind.i64] (vev12_0 tk es), AV.sl Tk.imm [Kd.int IntKind.u16, Kd.int IntKind.u32] (vev12_1 tk es), AV.bool (vev12_2 tk es)], [])))
  | _, _ => none
noncomputable def k12 : Gam := fun f T C => match Nat.beq f 12 with
  | true => (sp12 T C).or (k26 f T C)
  | false => k26 f T C
theorem k12_ok : GamOK Try.prog k12 := by
  intro f T C r outs h
  unfold k12 at h
  cases hf : Nat.beq f 12 with
  | false => rw [hf] at h; exact k26_ok f T C r outs h
  | true =>
    have hf' := Nat.eq_of_beq_eq_true hf
    subst hf'
    rw [hf] at h
    dsimp only at h
    cases hs : sp12 T C with
    | none => rw [hs] at h; exact k26_ok _ T C r outs h
    | some x =>
      rw [hs] at h
      have hx : x = (true, r, outs) := by simpa using h
      subst hx
      unfold sp12 at hs
      split at hs
      · rename_i tk es
        obtain ⟨hb, rfl, rfl⟩ := spT_inv hs
        have he := ev12 tk es
        rw [hb, cond_true] at he
        obtain ⟨r0, o0, h0, he⟩ := evFin_inv he
        obtain ⟨h1, h2⟩ := fn_ok mixed plain (gk_ok k26_ok 30) Try.func12 (fun c _ => LoopsOK.none (fun _ _ => rfl) c) h0
        exact ⟨h1, h2.fin he⟩
      · cases hs
noncomputable def rev13_0 (tk : Tk) (es : List (List AV)) : List (List AV) := List.drop (Int.toNat (1 : Int)) es
noncomputable def vev13_0 (tk : Tk) (es : List (List AV)) : List (List AV) := bif (↑es.length : Int) == (0 : Int) then [] else rev13_0 tk es
noncomputable def vev13_1 (tk : Tk) (es : List (List AV)) : List (List AV) := bif (↑es.length : Int) == (0 : Int) then [] else elsO ((es.getD (Int.toNat (0 : Int)) []).getD (0 : Nat) AV.junk)
noncomputable def vev13_2 (tk : Tk) (es : List (List AV)) : Bool := bif (↑es.length : Int) == (0 : Int) then false else true
noncomputable def vev13_3 (tk : Tk) (es : List (List AV)) : Bool := bif (↑es.length : Int) == (0 : Int) then true else bif bnd (1 : Int) (↑es.length : Int) (↑es.length : Int) then bif bif decide ((rev13_0 tk es).length * (32 : Nat) ≤ (140737488355328 : Nat)) then decide ((rev13_0 tk es).length ≤ (9223372036854775807 : Nat)) else false then bif decide ((0 : Int) ≤ (0 : Int)) && decide ((0 : Int) < (↑es.length : Int)) then true else false else false else false
theorem ev13 (tk : Tk) (es : List (List AV)) : evFin (cfg Try.prog tab 100000 (gk k12 30) noLsp 13 ([] : List Blk).length Try.f13.ntmps) ([] : List Blk).length Try.f13.resultTypes.toList Try.f13 [.sl tk [.sl [.int .u16, .int .u32], .int .i64] es] [] = bif vev13_3 tk es then some (true, AV.tup [AV.sl Tk.imm [Kd.sl [Kd.int IntKind.u16, Kd.int IntKind.u32], Kd.int IntKind.i64] (vev13_0 tk es), AV.sl Tk.imm [Kd.int IntKind.u16, Kd.int IntKind.u32] (vev13_1 tk es), AV.bool (vev13_2 tk es)], []) else none := by
  have h : evFin (cfg Try.prog tab 100000 (gk k12 30) noLsp 13 ([] : List Blk).length Try.f13.ntmps) ([] : List Blk).length Try.f13.resultTypes.toList Try.f13 [.sl tk [.sl [.int .u16, .int .u32], .int .i64] es] [] = bif (↑es.length : Int) == (0 : Int) then some (true, AV.tup [AV.sl Tk.imm [Kd.sl [Kd.int IntKind.u16, Kd.int IntKind.u32], Kd.int IntKind.i64] [], AV.sl Tk.imm [Kd.int IntKind.u16, Kd.int IntKind.u32] [], AV.bool false], []) else bif bnd (1 : Int) (↑es.length : Int) (↑es.length : Int) then bif bif decide ((rev13_0 tk es).length * (32 : Nat) ≤ (140737488355328 : Nat)) then decide ((rev13_0 tk es).length ≤ (9223372036854775807 : Nat)) else false then bif decide ((0 : Int) ≤ (0 : Int)) && decide ((0 : Int) < (↑es.length : Int)) then some (true, AV.tup [AV.sl Tk.imm [Kd.sl [Kd.int IntKind.u16, Kd.int IntKind.u32], Kd.int IntKind.i64] (rev13_0 tk es), AV.sl Tk.imm [Kd.int IntKind.u16, Kd.int IntKind.u32] (elsO ((es.getD (Int.toNat (0 : Int)) []).getD (0 : Nat) AV.junk)), AV.bool true], []) else none else none else none := by kernel_rfl
  rw [h]
  clear h
  unfold vev13_0 vev13_1 vev13_2 vev13_3
  generalize (decide ((0 : Int) ≤ (0 : Int)) && decide ((0 : Int) < (↑es.length : Int))) = c0
  generalize (decide ((rev13_0 tk es).length * (32 : Nat) ≤ (140737488355328 : Nat))) = c1
  generalize (decide ((rev13_0 tk es).length ≤ (9223372036854775807 : Nat))) = c2
  generalize (bnd (1 : Int) (↑es.length : Int) (↑es.length : Int)) = c3
  generalize ((↑es.length : Int) == (0 : Int)) = c4
  cases c4
  · skip
    cases c3
    · skip
      rfl
    · skip
      cases c1
      · skip
        rfl
      · skip
        cases c2
        · skip
          rfl
        · skip
          cases c0
          · skip
            rfl
          · skip
            rfl
  · skip
    rfl
-- spec vev13_3 tk es ;; (true, AV.tup [AV.sl Tk.imm [Kd.sl [Kd.int IntKind.u16, Kd.int IntKind.u32], Kd.int IntKind.i64] (vev13_0 tk es), AV.sl Tk.imm [Kd.int IntKind.u16, Kd.int IntKind.u32] (vev13_1 tk es), AV.bool (vev13_2 tk es)], [])
noncomputable def sp13 : List AV → List Blk → Option (Bool × AV × List Blk)
  | [.sl tk [.sl [.int .u16, .int .u32], .int .i64] es], [] => spW (vev13_3 tk es) (some ((true, AV.tup [AV.sl Tk.imm [Kd.sl [Kd.int IntKind.u16, Kd.int IntKind.u32], Kd.int IntKind.i64] (vev13_0 tk es), AV.sl Tk.imm [Kd.int IntKind.u16, Kd.int IntKind.u32] (vev13_1 tk es), AV.bool (vev13_2 tk es)], [])))
  | _, _ => none
noncomputable def k13 : Gam := fun f T C => match Nat.beq f 13 with
  | true => (sp13 T C).or (k12 f T C)
  | false => k12 f T C
theorem k13_ok : GamOK Try.prog k13 := by
  intro f T C r outs h
  unfold k13 at h
  cases hf : Nat.beq f 13 with
  | false => rw [hf] at h; exact k12_ok f T C r outs h
  | true =>
    have hf' := Nat.eq_of_beq_eq_true hf
    subst hf'
    rw [hf] at h
    dsimp only at h
    cases hs : sp13 T C with
    | none => rw [hs] at h; exact k12_ok _ T C r outs h
    | some x =>
      rw [hs] at h
      have hx : x = (true, r, outs) := by simpa using h
      subst hx
      unfold sp13 at hs
      split at hs
      · rename_i tk es
        obtain ⟨hb, rfl, rfl⟩ := spT_inv hs
        have he := ev13 tk es
        rw [hb, cond_true] at he
        obtain ⟨r0, o0, h0, he⟩ := evFin_inv he
        obtain ⟨h1, h2⟩ := fn_ok mixed plain (gk_ok k12_ok 30) Try.func13 (fun c _ => LoopsOK.none (fun _ _ => rfl) c) h0
        exact ⟨h1, h2.fin he⟩
      · cases hs
noncomputable def rev10_0 (tk : Tk) (es : List (List AV)) (tk2 : Tk) (l : List (List AV)) (now : Int) : Int := IntKind.i64.wrap ((↑es.length : Int) - (1 : Int))
noncomputable def rev10_1 (tk : Tk) (es : List (List AV)) (tk2 : Tk) (l : List (List AV)) (now : Int) : Int := intOf ((es.getD (rev10_0 tk es tk2 l now).toNat []).getD ((0 : Nat) + (1 : Nat)) AV.junk)
noncomputable def rev10_2 (tk : Tk) (es : List (List AV)) (tk2 : Tk) (l : List (List AV)) (now : Int) : List (List AV) := [[AV.sl Tk.imm [Kd.int IntKind.u16, Kd.int IntKind.u32] l, AV.int IntKind.i64 now]]
noncomputable def vev10_0 (tk : Tk) (es : List (List AV)) (tk2 : Tk) (l : List (List AV)) (now : Int) : List (List AV) := bif vev17_0 tk es != (0 : Int) then es else bif decide ((↑l.length : Int) > (8 : Int)) then es else bif !vev27_0 now then es else bif bif decide ((↑es.length : Int) > (0 : Int)) then bif decide ((0 : Int) ≤ rev10_0 tk es tk2 l now) && decide (rev10_0 tk es tk2 l now < (↑es.length : Int)) then decide (now < rev10_1 tk es tk2 l now) else false else false then es else bif decide ((↑es.length : Int) ≥ (4 : Int)) then es else es ++ rev10_2 tk es tk2 l now
noncomputable def vev10_1 (tk : Tk) (es : List (List AV)) (tk2 : Tk) (l : List (List AV)) (now : Int) : Int := bif vev17_0 tk es != (0 : Int) then vev17_0 tk es else bif decide ((↑l.length : Int) > (8 : Int)) then (5 : Int) else bif !vev27_0 now then (8 : Int) else bif bif decide ((↑es.length : Int) > (0 : Int)) then bif decide ((0 : Int) ≤ rev10_0 tk es tk2 l now) && decide (rev10_0 tk es tk2 l now < (↑es.length : Int)) then decide (now < rev10_1 tk es tk2 l now) else false else false then (10 : Int) else bif decide ((↑es.length : Int) ≥ (4 : Int)) then (7 : Int) else (0 : Int)
noncomputable def vev10_2 (tk : Tk) (es : List (List AV)) (tk2 : Tk) (l : List (List AV)) (now : Int) : Bool := bif vev26_0 tk es then bif vev17_1 tk es then bif vev17_0 tk es != (0 : Int) then true else bif decide ((↑l.length : Int) > (8 : Int)) then true else bif !vev27_0 now then true else bif bif decide ((↑es.length : Int) > (0 : Int)) then decide ((0 : Int) ≤ rev10_0 tk es tk2 l now) && decide (rev10_0 tk es tk2 l now < (↑es.length : Int)) else true then bif bif decide ((↑es.length : Int) > (0 : Int)) then bif decide ((0 : Int) ≤ rev10_0 tk es tk2 l now) && decide (rev10_0 tk es tk2 l now < (↑es.length : Int)) then decide (now < rev10_1 tk es tk2 l now) else false else false then true else bif decide ((↑es.length : Int) ≥ (4 : Int)) then true else bif (l.length * (8 : Nat)).ble (140737488355328 : Nat) then bif bif decide ((es.length + (rev10_2 tk es tk2 l now).length) * (32 : Nat) ≤ (140737488355328 : Nat)) then decide (es.length + (rev10_2 tk es tk2 l now).length ≤ (9223372036854775807 : Nat)) else false then true else false else false else false else false else false
theorem ev10 (tk : Tk) (es : List (List AV)) (tk2 : Tk) (l : List (List AV)) (now : Int) : evFin (cfg Try.prog tab 100000 (gk k13 30) noLsp 10 ([] : List Blk).length Try.f10.ntmps) ([] : List Blk).length Try.f10.resultTypes.toList Try.f10 [.sl tk [.sl [.int .u16, .int .u32], .int .i64] es, .sl tk2 [.int .u16, .int .u32] l, .int .i64 now] [] = bif vev10_2 tk es tk2 l now then some (true, AV.tup [AV.sl Tk.imm [Kd.sl [Kd.int IntKind.u16, Kd.int IntKind.u32], Kd.int IntKind.i64] (vev10_0 tk es tk2 l now), AV.int IntKind.i64 (vev10_1 tk es tk2 l now)], []) else none := by
  have h : evFin (cfg Try.prog tab 100000 (gk k13 30) noLsp 10 ([] : List Blk).length Try.f10.ntmps) ([] : List Blk).length Try.f10.resultTypes.toList Try.f10 [.sl tk [.sl [.int .u16, .int .u32], .int .i64] es, .sl tk2 [.int .u16, .int .u32] l, .int .i64 now] [] = bif vev26_0 tk es then bif vev17_1 tk es then bif vev17_0 tk es != (0 : Int) then some (true, AV.tup [AV.sl Tk.imm [Kd.sl [Kd.int IntKind.u16, Kd.int IntKind.u32], Kd.int IntKind.i64] es, AV.int IntKind.i64 (vev17_0 tk es)], []) else bif decide ((↑l.length : Int) > (8 : Int)) then some (true, AV.tup [AV.sl Tk.imm [Kd.sl [Kd.int IntKind.u16, Kd.int IntKind.u32], Kd.int IntKind.i64] es, AV.int IntKind.i64 (5 : Int)], []) else bif !vev27_0 now then some (true, AV.tup [AV.sl Tk.imm [Kd.sl [Kd.int IntKind.u16, Kd.int IntKind.u32], Kd.int IntKind.i64] es, AV.int IntKind.i64 (8 : Int)], []) else bif bif decide ((↑es.length : Int) > (0 : Int)) then bif decide ((0 : Int) ≤ rev10_0 tk es tk2 l now) && decide (rev10_0 tk es tk2 l now < (↑es.length : Int)) then true else false else true then bif bif decide ((↑es.length : Int) > (0 : Int)) then bif decide ((0 : Int) ≤ rev10_0 tk es tk2 l now) && decide (rev10_0 tk es tk2 l now < (↑es.length : Int)) then bif true then decide (now < rev10_1 tk es tk2 l now) else false else false else false then some (true, AV.tup [AV.sl Tk.imm [Kd.sl [Kd.int IntKind.u16, Kd.int IntKind.u32], Kd.int IntKind.i64] es, AV.int IntKind.i64 (10 : Int)], []) else bif decide ((↑es.length : Int) ≥ (4 : Int)) then some (true, AV.tup [AV.sl Tk.imm [Kd.sl [Kd.int IntKind.u16, Kd.int IntKind.u32], Kd.int IntKind.i64] es, AV.int IntKind.i64 (7 : Int)], []) else bif (l.length * (8 : Nat)).ble (140737488355328 : Nat) then bif bif decide ((es.length + (rev10_2 tk es tk2 l now).length) * (32 : Nat) ≤ (140737488355328 : Nat)) then decide (es.length + (rev10_2 tk es tk2 l now).length ≤ (9223372036854775807 : Nat)) else false then some (true, AV.tup [AV.sl Tk.imm [Kd.sl [Kd.int IntKind.u16, Kd.int IntKind.u32], Kd.int IntKind.i64] (es ++ rev10_2 tk es tk2 l now), AV.int IntKind.i64 (0 : Int)], []) else none else none else none else none else none := by kernel_rfl
  rw [h]
  clear h
  unfold vev10_0 vev10_1 vev10_2
  generalize (decide ((es.length + (rev10_2 tk es tk2 l now).length) * (32 : Nat) ≤ (140737488355328 : Nat))) = c0
  generalize (decide ((0 : Int) ≤ rev10_0 tk es tk2 l now) && decide (rev10_0 tk es tk2 l now < (↑es.length : Int))) = c1
  generalize (decide (es.length + (rev10_2 tk es tk2 l now).length ≤ (9223372036854775807 : Nat))) = c2
  generalize (decide ((↑es.length : Int) > (0 : Int))) = c3
  generalize (decide ((↑es.length : Int) ≥ (4 : Int))) = c4
  generalize (decide ((↑l.length : Int) > (8 : Int))) = c5
  generalize ((l.length * (8 : Nat)).ble (140737488355328 : Nat)) = c6
  generalize (decide (now < rev10_1 tk es tk2 l now)) = c7
  generalize (vev17_0 tk es != (0 : Int)) = c8
  generalize (!vev27_0 now) = c9
  generalize (vev17_1 tk es) = c10
  generalize (vev26_0 tk es) = c11
  cases c11
  · skip
    rfl
  · skip
    cases c10
    · skip
      rfl
    · skip
      cases c8
      · skip
        cases c5
        · skip
          cases c9
          · skip
            cases c3
            · skip
              cases c4
              · skip
                cases c6
                · skip
                  rfl
                · skip
                  cases c0
                  · skip
                    rfl
                  · skip
                    cases c2
                    · skip
                      rfl
                    · skip
                      rfl
              · skip
                rfl
            · skip
              cases c1
              · skip
                rfl
              · skip
                cases c7
                · skip
                  cases c4
                  · skip
                    cases c6
                    · skip
                      rfl
                    · skip
                      cases c0
                      · skip
                        rfl
                      · skip
                        cases c2
                        · skip
                          rfl
                        · skip
                          rfl
                  · skip
                    rfl
                · skip
                  rfl
          · skip
            rfl
        · skip
          rfl
      · skip
        rfl
-- spec vev10_2 tk es tk2 l now ;; (true, AV.tup [AV.sl Tk.imm [Kd.sl [Kd.int IntKind.u16, Kd.int IntKind.u32], Kd.int IntKind.i64] (vev10_0 tk es tk2 l now), AV.int IntKind.i64 (vev10_1 tk es tk2 l now)], [])
noncomputable def sp10 : List AV → List Blk → Option (Bool × AV × List Blk)
  | [.sl tk [.sl [.int .u16, .int .u32], .int .i64] es, .sl tk2 [.int .u16, .int .u32] l, .int .i64 now], [] => spW (vev10_2 tk es tk2 l now) (some ((true, AV.tup [AV.sl Tk.imm [Kd.sl [Kd.int IntKind.u16, Kd.int IntKind.u32], Kd.int IntKind.i64] (vev10_0 tk es tk2 l now), AV.int IntKind.i64 (vev10_1 tk es tk2 l now)], [])))
  | _, _ => none
noncomputable def k10 : Gam := fun f T C => match Nat.beq f 10 with
  | true => (sp10 T C).or (k13 f T C)
  | false => k13 f T C
theorem k10_ok : GamOK Try.prog k10 := by
  intro f T C r outs h
  unfold k10 at h
  cases hf : Nat.beq f 10 with
  | false => rw [hf] at h; exact k13_ok f T C r outs h
  | true =>
    have hf' := Nat.eq_of_beq_eq_true hf
    subst hf'
    rw [hf] at h
    dsimp only at h
    cases hs : sp10 T C with
    | none => rw [hs] at h; exact k13_ok _ T C r outs h
    | some x =>
      rw [hs] at h
      have hx : x = (true, r, outs) := by simpa using h
      subst hx
      unfold sp10 at hs
      split at hs
      · rename_i tk es tk2 l now
        obtain ⟨hb, rfl, rfl⟩ := spT_inv hs
        have he := ev10 tk es tk2 l now
        rw [hb, cond_true] at he
        obtain ⟨r0, o0, h0, he⟩ := evFin_inv he
        obtain ⟨h1, h2⟩ := fn_ok mixed plain (gk_ok k13_ok 30) Try.func10 (fun c _ => LoopsOK.none (fun _ _ => rfl) c) h0
        exact ⟨h1, h2.fin he⟩
      · cases hs
noncomputable def rev11_0 (es : List (List AV)) (tk2 : Tk) (l : List (List AV)) (now : Int) : Int := IntKind.i64.wrap ((↑es.length : Int) - (1 : Int))
noncomputable def rev11_1 (es : List (List AV)) (tk2 : Tk) (l : List (List AV)) (now : Int) : Int := intOf ((es.getD (rev11_0 es tk2 l now).toNat []).getD ((0 : Nat) + (1 : Nat)) AV.junk)
noncomputable def rev11_2 (es : List (List AV)) (tk2 : Tk) (l : List (List AV)) (now : Int) : List (List AV) := [[AV.sl Tk.imm [Kd.int IntKind.u16, Kd.int IntKind.u32] l, AV.int IntKind.i64 now]]
noncomputable def vev11_0 (es : List (List AV)) (tk2 : Tk) (l : List (List AV)) (now : Int) : List (List AV) := bif vev18_0 Tk.imm es != (0 : Int) then es else bif decide ((↑l.length : Int) > (8 : Int)) then es else bif !vev29_0 now then es else bif bif decide ((↑es.length : Int) > (0 : Int)) then bif decide ((0 : Int) ≤ rev11_0 es tk2 l now) && decide (rev11_0 es tk2 l now < (↑es.length : Int)) then decide (now < rev11_1 es tk2 l now) else false else false then es else bif decide ((↑es.length : Int) ≥ (4 : Int)) then es else es ++ rev11_2 es tk2 l now
noncomputable def vev11_1 (es : List (List AV)) (tk2 : Tk) (l : List (List AV)) (now : Int) : Int := bif vev18_0 Tk.imm es != (0 : Int) then vev18_0 Tk.imm es else bif decide ((↑l.length : Int) > (8 : Int)) then (5 : Int) else bif !vev29_0 now then (8 : Int) else bif bif decide ((↑es.length : Int) > (0 : Int)) then bif decide ((0 : Int) ≤ rev11_0 es tk2 l now) && decide (rev11_0 es tk2 l now < (↑es.length : Int)) then decide (now < rev11_1 es tk2 l now) else false else false then (10 : Int) else bif decide ((↑es.length : Int) ≥ (4 : Int)) then (7 : Int) else (0 : Int)
noncomputable def vev11_2 (es : List (List AV)) (tk2 : Tk) (l : List (List AV)) (now : Int) : Bool := bif vev18_1 Tk.imm es then bif vev18_0 Tk.imm es != (0 : Int) then true else bif decide ((↑l.length : Int) > (8 : Int)) then true else bif !vev29_0 now then true else bif bif decide ((↑es.length : Int) > (0 : Int)) then decide ((0 : Int) ≤ rev11_0 es tk2 l now) && decide (rev11_0 es tk2 l now < (↑es.length : Int)) else true then bif bif decide ((↑es.length : Int) > (0 : Int)) then bif decide ((0 : Int) ≤ rev11_0 es tk2 l now) && decide (rev11_0 es tk2 l now < (↑es.length : Int)) then decide (now < rev11_1 es tk2 l now) else false else false then true else bif decide ((↑es.length : Int) ≥ (4 : Int)) then true else bif bif decide (es.length * (32 : Nat) ≤ (140737488355328 : Nat)) then decide (es.length ≤ (9223372036854775807 : Nat)) else false then bif bif decide (l.length * (8 : Nat) ≤ (140737488355328 : Nat)) then decide (l.length ≤ (9223372036854775807 : Nat)) else false then bif bif decide ((es.length + (rev11_2 es tk2 l now).length) * (32 : Nat) ≤ (140737488355328 : Nat)) then decide (es.length + (rev11_2 es tk2 l now).length ≤ (9223372036854775807 : Nat)) else false then true else false else false else false else false else false
theorem ev11 (es : List (List AV)) (tk2 : Tk) (l : List (List AV)) (now : Int) : evFin (cfg Try.prog tab 100000 (gk k10 30) noLsp 11 ([] : List Blk).length Try.f11.ntmps) ([] : List Blk).length Try.f11.resultTypes.toList Try.f11 [.sl .imm [.sl [.int .u16, .int .u32], .int .i64] es, .sl tk2 [.int .u16, .int .u32] l, .int .i64 now] [] = bif vev11_2 es tk2 l now then some (true, AV.tup [AV.sl Tk.imm [Kd.sl [Kd.int IntKind.u16, Kd.int IntKind.u32], Kd.int IntKind.i64] (vev11_0 es tk2 l now), AV.int IntKind.i64 (vev11_1 es tk2 l now)], []) else none := by
  have h : evFin (cfg Try.prog tab 100000 (gk k10 30) noLsp 11 ([] : List Blk).length Try.f11.ntmps) ([] : List Blk).length Try.f11.resultTypes.toList Try.f11 [.sl .imm [.sl [.int .u16, .int .u32], .int .i64] es, .sl tk2 [.int .u16, .int .u32] l, .int .i64 now] [] = bif vev18_1 Tk.imm es then bif vev18_0 Tk.imm es != (0 : Int) then some (true, AV.tup [AV.sl Tk.imm [Kd.sl [Kd.int IntKind.u16, Kd.int IntKind.u32], Kd.int IntKind.i64] es, AV.int IntKind.i64 (vev18_0 Tk.imm es)], []) else bif decide ((↑l.length : Int) > (8 : Int)) then some (true, AV.tup [AV.sl Tk.imm [Kd.sl [Kd.int IntKind.u16, Kd.int IntKind.u32], Kd.int IntKind.i64] es, AV.int IntKind.i64 (5 : Int)], []) else bif !vev29_0 now then some (true, AV.tup [AV.sl Tk.imm [Kd.sl [Kd.int IntKind.u16, Kd.int IntKind.u32], Kd.int IntKind.i64] es, AV.int IntKind.i64 (8 : Int)], []) else bif bif decide ((↑es.length : Int) > (0 : Int)) then bif decide ((0 : Int) ≤ rev11_0 es tk2 l now) && decide (rev11_0 es tk2 l now < (↑es.length : Int)) then true else false else true then bif bif decide ((↑es.length : Int) > (0 : Int)) then bif decide ((0 : Int) ≤ rev11_0 es tk2 l now) && decide (rev11_0 es tk2 l now < (↑es.length : Int)) then bif true then decide (now < rev11_1 es tk2 l now) else false else false else false then some (true, AV.tup [AV.sl Tk.imm [Kd.sl [Kd.int IntKind.u16, Kd.int IntKind.u32], Kd.int IntKind.i64] es, AV.int IntKind.i64 (10 : Int)], []) else bif decide ((↑es.length : Int) ≥ (4 : Int)) then some (true, AV.tup [AV.sl Tk.imm [Kd.sl [Kd.int IntKind.u16, Kd.int IntKind.u32], Kd.int IntKind.i64] es, AV.int IntKind.i64 (7 : Int)], []) else bif bif decide (es.length * (32 : Nat) ≤ (140737488355328 : Nat)) then decide (es.length ≤ (9223372036854775807 : Nat)) else false then bif bif decide (l.length * (8 : Nat) ≤ (140737488355328 : Nat)) then decide (l.length ≤ (9223372036854775807 : Nat)) else false then bif bif decide ((es.length + (rev11_2 es tk2 l now).length) * (32 : Nat) ≤ (140737488355328 : Nat)) then decide (es.length + (rev11_2 es tk2 l now).length ≤ (9223372036854775807 : Nat)) else false then some (true, AV.tup [AV.sl Tk.imm [Kd.sl [Kd.int IntKind.u16, Kd.int IntKind.u32], Kd.int IntKind.i64] (es ++ rev11_2 es tk2 l now), AV.int IntKind.i64 (0 : Int)], []) else none else none else none else none else none := by kernel_rfl
  rw [h]
  clear h
  unfold vev11_0 vev11_1 vev11_2
  generalize (decide ((es.length + (rev11_2 es tk2 l now).length) * (32 : Nat) ≤ (140737488355328 : Nat))) = c0
  generalize (decide ((0 : Int) ≤ rev11_0 es tk2 l now) && decide (rev11_0 es tk2 l now < (↑es.length : Int))) = c1
  generalize (decide (es.length + (rev11_2 es tk2 l now).length ≤ (9223372036854775807 : Nat))) = c2
  generalize (decide (es.length * (32 : Nat) ≤ (140737488355328 : Nat))) = c3
  generalize (decide (l.length * (8 : Nat) ≤ (140737488355328 : Nat))) = c4
  generalize (decide ((↑l.length : Int) > (8 : Int))) = c5
  generalize (decide ((↑es.length : Int) > (0 : Int))) = c6
  generalize (decide ((↑es.length : Int) ≥ (4 : Int))) = c7
  generalize (decide (l.length ≤ (9223372036854775807 : Nat))) = c8
  generalize (decide (es.length ≤ (9223372036854775807 : Nat))) = c9
  generalize (decide (now < rev11_1 es tk2 l now)) = c10
  generalize (vev18_0 Tk.imm es != (0 : Int)) = c11
  generalize (!vev29_0 now) = c12
  generalize (vev18_1 Tk.imm es) = c13
  cases c13
  · skip
    rfl
  · skip
    cases c11
    · skip
      cases c5
      · skip
        cases c12
        · skip
          cases c6
          · skip
            cases c7
            · skip
              cases c3
              · skip
                rfl
              · skip
                cases c9
                · skip
                  rfl
                · skip
                  cases c4
                  · skip
                    rfl
                  · skip
                    cases c8
                    · skip
                      rfl
                    · skip
                      cases c0
                      · skip
                        rfl
                      · skip
                        cases c2
                        · skip
                          rfl
                        · skip
                          rfl
            · skip
              rfl
          · skip
            cases c1
            · skip
              rfl
            · skip
              cases c10
              · skip
                cases c7
                · skip
                  cases c3
                  · skip
                    rfl
                  · skip
                    cases c9
                    · skip
                      rfl
                    · skip
                      cases c4
                      · skip
                        rfl
                      · skip
                        cases c8
                        · skip
                          rfl
                        · skip
                          cases c0
                          · skip
                            rfl
                          · skip
                            cases c2
                            · skip
                              rfl
                            · skip
                              rfl
                · skip
                  rfl
              · skip
                rfl
        · skip
          rfl
      · skip
        rfl
    · skip
      rfl
-- spec vev11_2 es tk2 l now ;; (true, AV.tup [AV.sl Tk.imm [Kd.sl [Kd.int IntKind.u16, Kd.int IntKind.u32], Kd.int IntKind.i64] (vev11_0 es tk2 l now), AV.int IntKind.i64 (vev11_1 es tk2 l now)], [])
noncomputable def sp11 : List AV → List Blk → Option (Bool × AV × List Blk)
  | [.sl .imm [.sl [.int .u16, .int .u32], .int .i64] es, .sl tk2 [.int .u16, .int .u32] l, .int .i64 now], [] => spW (vev11_2 es tk2 l now) (some ((true, AV.tup [AV.sl Tk.imm [Kd.sl [Kd.int IntKind.u16, Kd.int IntKind.u32], Kd.int IntKind.i64] (vev11_0 es tk2 l now), AV.int IntKind.i64 (vev11_1 es tk2 l now)], [])))
  | _, _ => none
noncomputable def k11 : Gam := fun f T C => match Nat.beq f 11 with
  | true => (sp11 T C).or (k10 f T C)
  | false => k10 f T C
theorem k11_ok : GamOK Try.prog k11 := by
  intro f T C r outs h
  unfold k11 at h
  cases hf : Nat.beq f 11 with
  | false => rw [hf] at h; exact k10_ok f T C r outs h
  | true =>
    have hf' := Nat.eq_of_beq_eq_true hf
    subst hf'
    rw [hf] at h
    dsimp only at h
    cases hs : sp11 T C with
    | none => rw [hs] at h; exact k10_ok _ T C r outs h
    | some x =>
      rw [hs] at h
      have hx : x = (true, r, outs) := by simpa using h
      subst hx
      unfold sp11 at hs
      split at hs
      · rename_i es tk2 l now
        obtain ⟨hb, rfl, rfl⟩ := spT_inv hs
        have he := ev11 es tk2 l now
        rw [hb, cond_true] at he
        obtain ⟨r0, o0, h0, he⟩ := evFin_inv he
        obtain ⟨h1, h2⟩ := fn_ok mixed plain (gk_ok k10_ok 30) Try.func11 (fun c _ => LoopsOK.none (fun _ _ => rfl) c) h0
        exact ⟨h1, h2.fin he⟩
      · cases hs
end Go.Proofs.Gv
