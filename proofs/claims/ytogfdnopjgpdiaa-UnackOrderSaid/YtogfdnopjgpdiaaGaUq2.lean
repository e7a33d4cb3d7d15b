import Derived.Test.YtogfdnopjgpdiaaGt
import Derived.KernelRfl
import Derived.Test.YtogfdnopjgpdiaaGwF
import Derived.Test.YtogfdnopjgpdiaaGaUq
namespace Go.Proofs.Gv
open Go.Proofs
set_option linter.unusedVariables false
noncomputable def vev27_0 (n : Int) : Bool := bif decide (n ≥ (0 : Int)) then bif true then decide (n ≤ (1099511627776 : Int)) else false else false
theorem ev27 (n : Int) : evFin (cfg Try.prog tab 100000 (gk k8 30) noLsp 27 ([] : List Blk).length Try.f27.ntmps) ([] : List Blk).length Try.f27.resultTypes.toList Try.f27 [.int .i64 n] [] = bif true then some (true, AV.bool (vev27_0 n), []) else none := by
  have h : evFin (cfg Try.prog tab 100000 (gk k8 30) noLsp 27 ([] : List Blk).length Try.f27.ntmps) ([] : List Blk).length Try.f27.resultTypes.toList Try.f27 [.int .i64 n] [] = bif bif decide (n ≥ (0 : Int)) then true else true then some (true, AV.bool (bif decide (n ≥ (0 : Int)) then bif true then decide (n ≤ (1099511627776 : Int)) else false else false), []) else none := by kernel_rfl
  rw [h]
  clear h
  unfold vev27_0
  generalize (decide (n ≥ (0 : Int))) = c0
  cases c0
  · skip
    rfl
  · skip
    rfl
-- spec true ;; (true, AV.bool (vev27_0 n), [])
noncomputable def sp27 : List AV → List Blk → Option (Bool × AV × List Blk)
  | [.int .i64 n], [] => spW (true) (some ((true, AV.bool (vev27_0 n), [])))
  | _, _ => none
noncomputable def k27 : Gam := fun f T C => match Nat.beq f 27 with
  | true => (sp27 T C).or (k8 f T C)
  | false => k8 f T C
theorem k27_ok : GamOK Try.prog k27 := by
  intro f T C r outs h
  unfold k27 at h
  cases hf : Nat.beq f 27 with
  | false => rw [hf] at h; exact k8_ok f T C r outs h
  | true =>
    have hf' := Nat.eq_of_beq_eq_true hf
    subst hf'
    rw [hf] at h
    dsimp only at h
    cases hs : sp27 T C with
    | none => rw [hs] at h; exact k8_ok _ T C r outs h
    | some x =>
      rw [hs] at h
      have hx : x = (true, r, outs) := by simpa using h
      subst hx
      unfold sp27 at hs
      split at hs
      · rename_i n
        obtain ⟨hb, rfl, rfl⟩ := spT_inv hs
        have he := ev27 n
        obtain ⟨r0, o0, h0, he⟩ := evFin_inv he
        obtain ⟨h1, h2⟩ := fn_ok mixed plain (gk_ok k8_ok 30) Try.func27 (fun c _ => LoopsOK.none (fun _ _ => rfl) c) h0
        exact ⟨h1, h2.fin he⟩
      · cases hs
noncomputable def vev29_0 (n : Int) : Bool := bif decide (n ≥ (0 : Int)) then bif true then decide (n ≤ (1099511627776 : Int)) else false else false
theorem ev29 (n : Int) : evFin (cfg Try.prog tab 100000 (gk k27 30) noLsp 29 ([] : List Blk).length Try.f29.ntmps) ([] : List Blk).length Try.f29.resultTypes.toList Try.f29 [.int .i64 n] [] = bif true then some (true, AV.bool (vev29_0 n), []) else none := by
  have h : evFin (cfg Try.prog tab 100000 (gk k27 30) noLsp 29 ([] : List Blk).length Try.f29.ntmps) ([] : List Blk).length Try.f29.resultTypes.toList Try.f29 [.int .i64 n] [] = bif bif decide (n ≥ (0 : Int)) then true else true then some (true, AV.bool (bif decide (n ≥ (0 : Int)) then bif true then decide (n ≤ (1099511627776 : Int)) else false else false), []) else none := by kernel_rfl
  rw [h]
  clear h
  unfold vev29_0
  generalize (decide (n ≥ (0 : Int))) = c0
  cases c0
  · skip
    rfl
  · skip
    rfl
-- spec true ;; (true, AV.bool (vev29_0 n), [])
noncomputable def sp29 : List AV → List Blk → Option (Bool × AV × List Blk)
  | [.int .i64 n], [] => spW (true) (some ((true, AV.bool (vev29_0 n), [])))
  | _, _ => none
noncomputable def k29 : Gam := fun f T C => match Nat.beq f 29 with
  | true => (sp29 T C).or (k27 f T C)
  | false => k27 f T C
theorem k29_ok : GamOK Try.prog k29 := by
  intro f T C r outs h
  unfold k29 at h
  cases hf : Nat.beq f 29 with
  | false => rw [hf] at h; exact k27_ok f T C r outs h
  | true =>
    have hf' := Nat.eq_of_beq_eq_true hf
    subst hf'
    rw [hf] at h
    dsimp only at h
    cases hs : sp29 T C with
    | none => rw [hs] at h; exact k27_ok _ T C r outs h
    | some x =>
      rw [hs] at h
      have hx : x = (true, r, outs) := by simpa using h
      subst hx
      unfold sp29 at hs
      split at hs
      · rename_i n
        obtain ⟨hb, rfl, rfl⟩ := spT_inv hs
        have he := ev29 n
        obtain ⟨r0, o0, h0, he⟩ := evFin_inv he
        obtain ⟨h1, h2⟩ := fn_ok mixed plain (gk_ok k27_ok 30) Try.func29 (fun c _ => LoopsOK.none (fun _ _ => rfl) c) h0
        exact ⟨h1, h2.fin he⟩
      · cases hs
noncomputable def rn41a_2_0 (t0k : Tk) (t0 : List (List AV)) (t7 : Int) (t8 : Int) : Int := (↑(elsO ((t0.getD t8.toNat []).getD (0 : Nat) AV.junk)).length : Int)
noncomputable def go41a_2 (t0k : Tk) (t0 : List (List AV)) (t7 : Int) (t8 : Int) : Bool := bif decide (t8 < t7) then bif decide ((0 : Int) ≤ t8) && decide (t8 < (↑t0.length : Int)) then bif decide (rn41a_2_0 t0k t0 t7 t8 > (8 : Int)) then false else true else false else false
noncomputable def nx41a_2_3 (t0k : Tk) (t0 : List (List AV)) (t7 : Int) (t8 : Int) : Int := IntKind.i64.wrap (t8 + (1 : Int))
noncomputable def xc41a_2_0 (t0k : Tk) (t0 : List (List AV)) (t7 : Int) (t8 : Int) : Bool := bif decide (t8 < t7) then bif decide ((0 : Int) ≤ t8) && decide (t8 < (↑t0.length : Int)) then decide (rn41a_2_0 t0k t0 t7 t8 > (8 : Int)) else false else false
noncomputable def xc41a_2_1 (t0k : Tk) (t0 : List (List AV)) (t7 : Int) (t8 : Int) : Bool := bif decide (t8 < t7) then false else true
theorem rd41a_2 (rest : Lsp) (t0k : Tk) (t0 : List (List AV)) (t7 : Int) (t8 : Int) : roundV (cfg Try.prog tab 100000 (gk k29 30) rest 41 0 Try.f41.ntmps) (loopAt Try.f41 2) [0, 1, 7, 8] [] [4] [] [AV.sl t0k [Kd.sl [Kd.int IntKind.u16, Kd.int IntKind.u32], Kd.int IntKind.i64] t0, AV.fn (nat_lit 31) [], AV.int IntKind.i64 t7, AV.int IntKind.i64 t8] [] = bif go41a_2 t0k t0 t7 t8 then some (Ex.norm, [AV.sl t0k [Kd.sl [Kd.int IntKind.u16, Kd.int IntKind.u32], Kd.int IntKind.i64] t0, AV.fn (nat_lit 31) [], AV.int IntKind.i64 t7, AV.int IntKind.i64 (nx41a_2_3 t0k t0 t7 t8)], []) else bif xc41a_2_0 t0k t0 t7 t8 then some (Ex.ret, [AV.int IntKind.i64 t8], []) else bif xc41a_2_1 t0k t0 t7 t8 then some (Ex.exit (nat_lit 0), [AV.junk], []) else none := by
  have h : roundV (cfg Try.prog tab 100000 (gk k29 30) rest 41 0 Try.f41.ntmps) (loopAt Try.f41 2) [0, 1, 7, 8] [] [4] [] [AV.sl t0k [Kd.sl [Kd.int IntKind.u16, Kd.int IntKind.u32], Kd.int IntKind.i64] t0, AV.fn (nat_lit 31) [], AV.int IntKind.i64 t7, AV.int IntKind.i64 t8] [] = bif decide (t8 < t7) then bif decide ((0 : Int) ≤ t8) && decide (t8 < (↑t0.length : Int)) then bif decide (rn41a_2_0 t0k t0 t7 t8 > (8 : Int)) then some (Ex.ret, [AV.int IntKind.i64 t8], []) else some (Ex.norm, [AV.sl t0k [Kd.sl [Kd.int IntKind.u16, Kd.int IntKind.u32], Kd.int IntKind.i64] t0, AV.fn (nat_lit 31) [], AV.int IntKind.i64 t7, AV.int IntKind.i64 (IntKind.i64.wrap (t8 + (1 : Int)))], []) else none else some (Ex.exit (nat_lit 0), [AV.junk], []) := by kernel_rfl
  rw [h]
  clear h
  unfold go41a_2 nx41a_2_3 xc41a_2_0 xc41a_2_1
  generalize (decide ((0 : Int) ≤ t8) && decide (t8 < (↑t0.length : Int))) = c0
  generalize (decide (rn41a_2_0 t0k t0 t7 t8 > (8 : Int))) = c1
  generalize (decide (t8 < t7)) = c2
  cases c2
  · skip
    rfl
  · skip
    cases c0
    · skip
      rfl
    · skip
      cases c1
      · skip
        rfl
      · skip
        rfl
abbrev pl41a_2 : Type := Tk × (List (List AV)) × Int
abbrev sl41a_2 : Type := Int
noncomputable def vt41a_2 (a : pl41a_2 × sl41a_2) : List AV := [AV.sl a.1.1 [Kd.sl [Kd.int IntKind.u16, Kd.int IntKind.u32], Kd.int IntKind.i64] a.1.2.1, AV.fn (nat_lit 31) [], AV.int IntKind.i64 a.1.2.2, AV.int IntKind.i64 a.2]
noncomputable def vc41a_2 (a : pl41a_2 × sl41a_2) : List Blk := []
noncomputable def de41a_2 (vt : List AV) (vc : List Blk) : Option (pl41a_2 × sl41a_2) :=
  match vt with
  | [qa0, qa1, qa2, qa3] => (match vc with
  | [] => (match qa0 with
  | AV.sl t0k [Kd.sl [Kd.int IntKind.u16, Kd.int IntKind.u32], Kd.int IntKind.i64] t0 => (match qa1 with
  | AV.fn (31) [] => (match qa2 with
  | AV.int IntKind.i64 t7 => (match qa3 with
  | AV.int IntKind.i64 t8 => (some ((t0k, t0, t7), t8))
  | _ => none)
  | _ => none)
  | _ => none)
  | _ => none)
  | _ => none)
  | _ => none
theorem de41a_2_ok (vt : List AV) (vc : List Blk) (a : pl41a_2 × sl41a_2) (h : de41a_2 vt vc = some a) : vt = vt41a_2 a ∧ vc = vc41a_2 a := by
  unfold de41a_2 at h
  split at h
  rotate_left
  · cases h
  split at h
  rotate_left
  · cases h
  split at h
  rotate_left
  · cases h
  split at h
  rotate_left
  · cases h
  split at h
  rotate_left
  · cases h
  split at h
  rotate_left
  · cases h
  injection h with h
  subst h
  exact ⟨rfl, rfl⟩
noncomputable def g41a_2 (p : pl41a_2) (s : sl41a_2) : Bool := go41a_2 p.1 p.2.1 p.2.2 s
noncomputable def n41a_2 (p : pl41a_2) (s : sl41a_2) : sl41a_2 := nx41a_2_3 p.1 p.2.1 p.2.2 s
noncomputable def y41a_2 (p : pl41a_2) (s : sl41a_2) : List (Bool × Out) := [(xc41a_2_0 p.1 p.2.1 p.2.2 s, (Ex.ret, [AV.int IntKind.i64 s], []))]
noncomputable def z41a_2 (p : pl41a_2) (s : sl41a_2) : Bool := xc41a_2_1 p.1 p.2.1 p.2.2 s
noncomputable def d41a_2 (p : pl41a_2) (s : sl41a_2) : Out := (Ex.exit (nat_lit 0), [AV.junk], [])
noncomputable def ls41a_2 : St → Option (Bool × List (Bool × Ex × St) × Ex × St) := lspOf [0, 1, 7, 8] [] [4] [] Try.f41.ntmps (0 + tab.nid 41) de41a_2 (spI g41a_2 n41a_2 y41a_2 z41a_2 d41a_2)
theorem lo41a_2 (rest : Lsp) : LoopOK1 (cfg Try.prog tab 100000 (gk k29 30) (selL 2 ls41a_2 rest) 41 0 Try.f41.ntmps) (loopAt Try.f41 2) := LoopOK1.iter (i := 2) (by kernel_rfl) [0, 1, 7, 8] [] [4] [] vt41a_2 vc41a_2 de41a_2 g41a_2 n41a_2 y41a_2 z41a_2 d41a_2 (fun _ => rfl) de41a_2_ok (fun p s => rd41a_2 (selL 2 ls41a_2 rest) (p.1) (p.2.1) (p.2.2) s) (fun _ _ => rfl)
noncomputable def lsp41a : Lsp := (selL 2 ls41a_2 noLsp)
theorem loops41a : ∀ c, Try.f41.body = some c → LoopsOK (cfg Try.prog tab 100000 (gk k29 30) lsp41a 41 0 Try.f41.ntmps) c := loops_of [2] (by kernel_rfl) (by kernel_rfl) (fun i hi => by
  simp only [List.mem_cons, List.not_mem_nil, or_false] at hi
  subst hi
  · exact lo41a_2 noLsp)
noncomputable def rev41a_0 (tk : Tk) (es : List (List AV)) : sl41a_2 := finL (g41a_2 (tk, es, (↑es.length : Int))) (n41a_2 (tk, es, (↑es.length : Int))) (0 : Int)
noncomputable def vev41a_0 (tk : Tk) (es : List (List AV)) : sl41a_2 := bif xc41a_2_0 tk es (↑es.length : Int) (rev41a_0 tk es) then rev41a_0 tk es else (-1 : Int)
noncomputable def vev41a_1 (tk : Tk) (es : List (List AV)) : Bool := bif (spI g41a_2 n41a_2 y41a_2 z41a_2 d41a_2 ((tk, es, (↑es.length : Int)), (0 : Int))).fst then true else false
theorem ev41a (tk : Tk) (es : List (List AV)) : evFin (cfg Try.prog tab 100000 (gk k29 30) lsp41a 41 ([] : List Blk).length Try.f41.ntmps) ([] : List Blk).length Try.f41.resultTypes.toList Try.f41 [.sl tk [.sl [.int .u16, .int .u32], .int .i64] es, .fn 31 []] [] = bif vev41a_1 tk es then some (true, AV.int IntKind.i64 (vev41a_0 tk es), []) else none := by
  have h : evFin (cfg Try.prog tab 100000 (gk k29 30) lsp41a 41 ([] : List Blk).length Try.f41.ntmps) ([] : List Blk).length Try.f41.resultTypes.toList Try.f41 [.sl tk [.sl [.int .u16, .int .u32], .int .i64] es, .fn 31 []] [] = bif (spI g41a_2 n41a_2 y41a_2 z41a_2 d41a_2 ((tk, es, (↑es.length : Int)), (0 : Int))).fst then bif xc41a_2_0 tk es (↑es.length : Int) (rev41a_0 tk es) then some (true, AV.int IntKind.i64 (rev41a_0 tk es), []) else some (true, AV.int IntKind.i64 (-1 : Int), []) else none := by kernel_rfl
  rw [h]
  clear h
  unfold vev41a_0 vev41a_1
  generalize ((spI g41a_2 n41a_2 y41a_2 z41a_2 d41a_2 ((tk, es, (↑es.length : Int)), (0 : Int))).fst) = c0
  generalize (xc41a_2_0 tk es (↑es.length : Int) (rev41a_0 tk es)) = c1
  cases c0
  · skip
    rfl
  · skip
    cases c1
    · skip
      rfl
    · skip
      rfl
-- spec vev41a_1 tk es ;; (true, AV.int IntKind.i64 (vev41a_0 tk es), [])
noncomputable def sp41a : List AV → List Blk → Option (Bool × AV × List Blk)
  | [.sl tk [.sl [.int .u16, .int .u32], .int .i64] es, .fn 31 []], [] => spW (vev41a_1 tk es) (some ((true, AV.int IntKind.i64 (vev41a_0 tk es), [])))
  | _, _ => none
noncomputable def k41a : Gam := fun f T C => match Nat.beq f 41 with
  | true => (sp41a T C).or (k29 f T C)
  | false => k29 f T C
theorem k41a_ok : GamOK Try.prog k41a := by
  intro f T C r outs h
  unfold k41a at h
  cases hf : Nat.beq f 41 with
  | false => rw [hf] at h; exact k29_ok f T C r outs h
  | true =>
    have hf' := Nat.eq_of_beq_eq_true hf
    subst hf'
    rw [hf] at h
    dsimp only at h
    cases hs : sp41a T C with
    | none => rw [hs] at h; exact k29_ok _ T C r outs h
    | some x =>
      rw [hs] at h
      have hx : x = (true, r, outs) := by simpa using h
      subst hx
      unfold sp41a at hs
      split at hs
      · rename_i tk es
        obtain ⟨hb, rfl, rfl⟩ := spT_inv hs
        have he := ev41a tk es
        rw [hb, cond_true] at he
        obtain ⟨r0, o0, h0, he⟩ := evFin_inv he
        obtain ⟨h1, h2⟩ := fn_ok mixed plain (gk_ok k29_ok 30) Try.func41 loops41a h0
        exact ⟨h1, h2.fin he⟩
      · cases hs
noncomputable def go41b_2 (t0k : Tk) (t0 : List (List AV)) (t7 : Int) (t8 : Int) : Bool := bif decide (t8 < t7) then bif decide ((0 : Int) ≤ t8) && decide (t8 < (↑t0.length : Int)) then bif !vev27_0 (intOf ((t0.getD t8.toNat []).getD ((0 : Nat) + (1 : Nat)) AV.junk)) then false else true else false else false
noncomputable def nx41b_2_3 (t0k : Tk) (t0 : List (List AV)) (t7 : Int) (t8 : Int) : Int := IntKind.i64.wrap (t8 + (1 : Int))
noncomputable def xc41b_2_0 (t0k : Tk) (t0 : List (List AV)) (t7 : Int) (t8 : Int) : Bool := bif decide (t8 < t7) then bif decide ((0 : Int) ≤ t8) && decide (t8 < (↑t0.length : Int)) then !vev27_0 (intOf ((t0.getD t8.toNat []).getD ((0 : Nat) + (1 : Nat)) AV.junk)) else false else false
noncomputable def xc41b_2_1 (t0k : Tk) (t0 : List (List AV)) (t7 : Int) (t8 : Int) : Bool := bif decide (t8 < t7) then false else true
theorem rd41b_2 (rest : Lsp) (t0k : Tk) (t0 : List (List AV)) (t7 : Int) (t8 : Int) : roundV (cfg Try.prog tab 100000 (gk k41a 30) rest 41 0 Try.f41.ntmps) (loopAt Try.f41 2) [0, 1, 7, 8] [] [4] [] [AV.sl t0k [Kd.sl [Kd.int IntKind.u16, Kd.int IntKind.u32], Kd.int IntKind.i64] t0, AV.fn (nat_lit 32) [], AV.int IntKind.i64 t7, AV.int IntKind.i64 t8] [] = bif go41b_2 t0k t0 t7 t8 then some (Ex.norm, [AV.sl t0k [Kd.sl [Kd.int IntKind.u16, Kd.int IntKind.u32], Kd.int IntKind.i64] t0, AV.fn (nat_lit 32) [], AV.int IntKind.i64 t7, AV.int IntKind.i64 (nx41b_2_3 t0k t0 t7 t8)], []) else bif xc41b_2_0 t0k t0 t7 t8 then some (Ex.ret, [AV.int IntKind.i64 t8], []) else bif xc41b_2_1 t0k t0 t7 t8 then some (Ex.exit (nat_lit 0), [AV.junk], []) else none := by
  have h : roundV (cfg Try.prog tab 100000 (gk k41a 30) rest 41 0 Try.f41.ntmps) (loopAt Try.f41 2) [0, 1, 7, 8] [] [4] [] [AV.sl t0k [Kd.sl [Kd.int IntKind.u16, Kd.int IntKind.u32], Kd.int IntKind.i64] t0, AV.fn (nat_lit 32) [], AV.int IntKind.i64 t7, AV.int IntKind.i64 t8] [] = bif decide (t8 < t7) then bif decide ((0 : Int) ≤ t8) && decide (t8 < (↑t0.length : Int)) then bif !vev27_0 (intOf ((t0.getD t8.toNat []).getD ((0 : Nat) + (1 : Nat)) AV.junk)) then some (Ex.ret, [AV.int IntKind.i64 t8], []) else some (Ex.norm, [AV.sl t0k [Kd.sl [Kd.int IntKind.u16, Kd.int IntKind.u32], Kd.int IntKind.i64] t0, AV.fn (nat_lit 32) [], AV.int IntKind.i64 t7, AV.int IntKind.i64 (IntKind.i64.wrap (t8 + (1 : Int)))], []) else none else some (Ex.exit (nat_lit 0), [AV.junk], []) := by kernel_rfl
  rw [h]
  clear h
  unfold go41b_2 nx41b_2_3 xc41b_2_0 xc41b_2_1
  generalize (decide ((0 : Int) ≤ t8) && decide (t8 < (↑t0.length : Int))) = c0
  generalize (!vev27_0 (intOf ((t0.getD t8.toNat []).getD ((0 : Nat) + (1 : Nat)) AV.junk))) = c1
  generalize (decide (t8 < t7)) = c2
  cases c2
  · skip
    rfl
  · skip
    cases c0
    · skip
      rfl
    · skip
      cases c1
      · skip
        rfl
      · skip
        rfl
abbrev pl41b_2 : Type := Tk × (List (List AV)) × Int
abbrev sl41b_2 : Type := Int
noncomputable def vt41b_2 (a : pl41b_2 × sl41b_2) : List AV := [AV.sl a.1.1 [Kd.sl [Kd.int IntKind.u16, Kd.int IntKind.u32], Kd.int IntKind.i64] a.1.2.1, AV.fn (nat_lit 32) [], AV.int IntKind.i64 a.1.2.2, AV.int IntKind.i64 a.2]
noncomputable def vc41b_2 (a : pl41b_2 × sl41b_2) : List Blk := []
noncomputable def de41b_2 (vt : List AV) (vc : List Blk) : Option (pl41b_2 × sl41b_2) :=
  match vt with
  | [qa0, qa1, qa2, qa3] => (match vc with
  | [] => (match qa0 with
  | AV.sl t0k [Kd.sl [Kd.int IntKind.u16, Kd.int IntKind.u32], Kd.int IntKind.i64] t0 => (match qa1 with
  | AV.fn (32) [] => (match qa2 with
  | AV.int IntKind.i64 t7 => (match qa3 with
  | AV.int IntKind.i64 t8 => (some ((t0k, t0, t7), t8))
  | _ => none)
  | _ => none)
  | _ => none)
  | _ => none)
  | _ => none)
  | _ => none
theorem de41b_2_ok (vt : List AV) (vc : List Blk) (a : pl41b_2 × sl41b_2) (h : de41b_2 vt vc = some a) : vt = vt41b_2 a ∧ vc = vc41b_2 a := by
  unfold de41b_2 at h
  split at h
  rotate_left
  · cases h
  split at h
  rotate_left
  · cases h
  split at h
  rotate_left
  · cases h
  split at h
  rotate_left
  · cases h
  split at h
  rotate_left
  · cases h
  split at h
  rotate_left
  · cases h
  injection h with h
  subst h
  exact ⟨rfl, rfl⟩
noncomputable def g41b_2 (p : pl41b_2) (s : sl41b_2) : Bool := go41b_2 p.1 p.2.1 p.2.2 s
noncomputable def n41b_2 (p : pl41b_2) (s : sl41b_2) : sl41b_2 := nx41b_2_3 p.1 p.2.1 p.2.2 s
noncomputable def y41b_2 (p : pl41b_2) (s : sl41b_2) : List (Bool × Out) := [(xc41b_2_0 p.1 p.2.1 p.2.2 s, (Ex.ret, [AV.int IntKind.i64 s], []))]
noncomputable def z41b_2 (p : pl41b_2) (s : sl41b_2) : Bool := xc41b_2_1 p.1 p.2.1 p.2.2 s
noncomputable def d41b_2 (p : pl41b_2) (s : sl41b_2) : Out := (Ex.exit (nat_lit 0), [AV.junk], [])
noncomputable def ls41b_2 : St → Option (Bool × List (Bool × Ex × St) × Ex × St) := lspOf [0, 1, 7, 8] [] [4] [] Try.f41.ntmps (0 + tab.nid 41) de41b_2 (spI g41b_2 n41b_2 y41b_2 z41b_2 d41b_2)
theorem lo41b_2 (rest : Lsp) : LoopOK1 (cfg Try.prog tab 100000 (gk k41a 30) (selL 2 ls41b_2 rest) 41 0 Try.f41.ntmps) (loopAt Try.f41 2) := LoopOK1.iter (i := 2) (by kernel_rfl) [0, 1, 7, 8] [] [4] [] vt41b_2 vc41b_2 de41b_2 g41b_2 n41b_2 y41b_2 z41b_2 d41b_2 (fun _ => rfl) de41b_2_ok (fun p s => rd41b_2 (selL 2 ls41b_2 rest) (p.1) (p.2.1) (p.2.2) s) (fun _ _ => rfl)
noncomputable def lsp41b : Lsp := (selL 2 ls41b_2 noLsp)
theorem loops41b : ∀ c, Try.f41.body = some c → LoopsOK (cfg Try.prog tab 100000 (gk k41a 30) lsp41b 41 0 Try.f41.ntmps) c := loops_of [2] (by kernel_rfl) (by kernel_rfl) (fun i hi => by
  simp only [List.mem_cons, List.not_mem_nil, or_false] at hi
  subst hi
  · exact lo41b_2 noLsp)
noncomputable def rev41b_0 (tk : Tk) (es : List (List AV)) : sl41b_2 := finL (g41b_2 (tk, es, (↑es.length : Int))) (n41b_2 (tk, es, (↑es.length : Int))) (0 : Int)
noncomputable def vev41b_0 (tk : Tk) (es : List (List AV)) : sl41b_2 := bif xc41b_2_0 tk es (↑es.length : Int) (rev41b_0 tk es) then rev41b_0 tk es else (-1 : Int)
noncomputable def vev41b_1 (tk : Tk) (es : List (List AV)) : Bool := bif (spI g41b_2 n41b_2 y41b_2 z41b_2 d41b_2 ((tk, es, (↑es.length : Int)), (0 : Int))).fst then true else false
theorem ev41b (tk : Tk) (es : List (List AV)) : evFin (cfg Try.prog tab 100000 (gk k41a 30) lsp41b 41 ([] : List Blk).length Try.f41.ntmps) ([] : List Blk).length Try.f41.resultTypes.toList Try.f41 [.sl tk [.sl [.int .u16, .int .u32], .int .i64] es, .fn 32 []] [] = bif vev41b_1 tk es then some (true, AV.int IntKind.i64 (vev41b_0 tk es), []) else none := by
  have h : evFin (cfg Try.prog tab 100000 (gk k41a 30) lsp41b 41 ([] : List Blk).length Try.f41.ntmps) ([] : List Blk).length Try.f41.resultTypes.toList Try.f41 [.sl tk [.sl [.int .u16, .int .u32], .int .i64] es, .fn 32 []] [] = bif (spI g41b_2 n41b_2 y41b_2 z41b_2 d41b_2 ((tk, es, (↑es.length : Int)), (0 : Int))).fst then bif xc41b_2_0 tk es (↑es.length : Int) (rev41b_0 tk es) then some (true, AV.int IntKind.i64 (rev41b_0 tk es), []) else some (true, AV.int IntKind.i64 (-1 : Int), []) else none := by kernel_rfl
  rw [h]
  clear h
  unfold vev41b_0 vev41b_1
  generalize ((spI g41b_2 n41b_2 y41b_2 z41b_2 d41b_2 ((tk, es, (↑es.length : Int)), (0 : Int))).fst) = c0
  generalize (xc41b_2_0 tk es (↑es.length : Int) (rev41b_0 tk es)) = c1
  cases c0
  · skip
    rfl
  · skip
    cases c1
    · skip
      rfl
    · skip
      rfl
-- spec vev41b_1 tk es ;; (true, AV.int IntKind.i64 (vev41b_0 tk es), [])
noncomputable def sp41b : List AV → List Blk → Option (Bool × AV × List Blk)
  | [.sl tk [.sl [.int .u16, .int .u32], .int .i64] es, .fn 32 []], [] => spW (vev41b_1 tk es) (some ((true, AV.int IntKind.i64 (vev41b_0 tk es), [])))
  | _, _ => none
noncomputable def k41b : Gam := fun f T C => match Nat.beq f 41 with
  | true => (sp41b T C).or (k41a f T C)
  | false => k41a f T C
theorem k41b_ok : GamOK Try.prog k41b := by
  intro f T C r outs h
  unfold k41b at h
  cases hf : Nat.beq f 41 with
  | false => rw [hf] at h; exact k41a_ok f T C r outs h
  | true =>
    have hf' := Nat.eq_of_beq_eq_true hf
    subst hf'
    rw [hf] at h
    dsimp only at h
    cases hs : sp41b T C with
    | none => rw [hs] at h; exact k41a_ok _ T C r outs h
    | some x =>
      rw [hs] at h
      have hx : x = (true, r, outs) := by simpa using h
      subst hx
      unfold sp41b at hs
      split at hs
      · rename_i tk es
        obtain ⟨hb, rfl, rfl⟩ := spT_inv hs
        have he := ev41b tk es
        rw [hb, cond_true] at he
        obtain ⟨r0, o0, h0, he⟩ := evFin_inv he
        obtain ⟨h1, h2⟩ := fn_ok mixed plain (gk_ok k41a_ok 30) Try.func41 loops41b h0
        exact ⟨h1, h2.fin he⟩
      · cases hs
noncomputable def vev30a_0 (tk : Tk) (es : List (List AV)) : Bool := decide (vev41a_0 tk es ≥ (0 : Int))
noncomputable def vev30a_1 (tk : Tk) (es : List (List AV)) : Bool := bif vev41a_1 tk es then true else false
theorem ev30a (tk : Tk) (es : List (List AV)) : evFin (cfg Try.prog tab 100000 (gk k41b 30) noLsp 30 ([] : List Blk).length Try.f30.ntmps) ([] : List Blk).length Try.f30.resultTypes.toList Try.f30 [.sl tk [.sl [.int .u16, .int .u32], .int .i64] es, .fn 31 []] [] = bif vev30a_1 tk es then some (true, AV.bool (vev30a_0 tk es), []) else none := by
  have h : evFin (cfg Try.prog tab 100000 (gk k41b 30) noLsp 30 ([] : List Blk).length Try.f30.ntmps) ([] : List Blk).length Try.f30.resultTypes.toList Try.f30 [.sl tk [.sl [.int .u16, .int .u32], .int .i64] es, .fn 31 []] [] = bif vev41a_1 tk es then some (true, AV.bool (decide (vev41a_0 tk es ≥ (0 : Int))), []) else none := by kernel_rfl
  rw [h]
  clear h
  unfold vev30a_0 vev30a_1
  generalize (vev41a_1 tk es) = c0
  cases c0
  · skip
    rfl
  · skip
    rfl
-- spec vev30a_1 tk es ;; (true, AV.bool (vev30a_0 tk es), [])
noncomputable def sp30a : List AV → List Blk → Option (Bool × AV × List Blk)
  | [.sl tk [.sl [.int .u16, .int .u32], .int .i64] es, .fn 31 []], [] => spW (vev30a_1 tk es) (some ((true, AV.bool (vev30a_0 tk es), [])))
  | _, _ => none
noncomputable def k30a : Gam := fun f T C => match Nat.beq f 30 with
  | true => (sp30a T C).or (k41b f T C)
  | false => k41b f T C
theorem k30a_ok : GamOK Try.prog k30a := by
  intro f T C r outs h
  unfold k30a at h
  cases hf : Nat.beq f 30 with
  | false => rw [hf] at h; exact k41b_ok f T C r outs h
  | true =>
    have hf' := Nat.eq_of_beq_eq_true hf
    subst hf'
    rw [hf] at h
    dsimp only at h
    cases hs : sp30a T C with
    | none => rw [hs] at h; exact k41b_ok _ T C r outs h
    | some x =>
      rw [hs] at h
      have hx : x = (true, r, outs) := by simpa using h
      subst hx
      unfold sp30a at hs
      split at hs
      · rename_i tk es
        obtain ⟨hb, rfl, rfl⟩ := spT_inv hs
        have he := ev30a tk es
        rw [hb, cond_true] at he
        obtain ⟨r0, o0, h0, he⟩ := evFin_inv he
        obtain ⟨h1, h2⟩ := fn_ok mixed plain (gk_ok k41b_ok 30) Try.func30 (fun c _ => LoopsOK.none (fun _ _ => rfl) c) h0
        exact ⟨h1, h2.fin he⟩
      · cases hs
noncomputable def vev30b_0 (tk : Tk) (es : List (List AV)) : Bool := decide (vev41b_0 tk es ≥ (0 : Int))
noncomputable def vev30b_1 (tk : Tk) (es : List (List AV)) : Bool := bif vev41b_1 tk es then true else false
theorem ev30b (tk : Tk) (es : List (List AV)) : evFin (cfg Try.prog tab 100000 (gk k30a 30) noLsp 30 ([] : List Blk).length Try.f30.ntmps) ([] : List Blk).length Try.f30.resultTypes.toList Try.f30 [.sl tk [.sl [.int .u16, .int .u32], .int .i64] es, .fn 32 []] [] = bif vev30b_1 tk es then some (true, AV.bool (vev30b_0 tk es), []) else none := by
  have h : evFin (cfg Try.prog tab 100000 (gk k30a 30) noLsp 30 ([] : List Blk).length Try.f30.ntmps) ([] : List Blk).length Try.f30.resultTypes.toList Try.f30 [.sl tk [.sl [.int .u16, .int .u32], .int .i64] es, .fn 32 []] [] = bif vev41b_1 tk es then some (true, AV.bool (decide (vev41b_0 tk es ≥ (0 : Int))), []) else none := by kernel_rfl
  rw [h]
  clear h
  unfold vev30b_0 vev30b_1
  generalize (vev41b_1 tk es) = c0
  cases c0
  · skip
    rfl
  · skip
    rfl
-- spec vev30b_1 tk es ;; (true, AV.bool (vev30b_0 tk es), [])
noncomputable def sp30b : List AV → List Blk → Option (Bool × AV × List Blk)
  | [.sl tk [.sl [.int .u16, .int .u32], .int .i64] es, .fn 32 []], [] => spW (vev30b_1 tk es) (some ((true, AV.bool (vev30b_0 tk es), [])))
  | _, _ => none
noncomputable def k30b : Gam := fun f T C => match Nat.beq f 30 with
  | true => (sp30b T C).or (k30a f T C)
  | false => k30a f T C
theorem k30b_ok : GamOK Try.prog k30b := by
  intro f T C r outs h
  unfold k30b at h
  cases hf : Nat.beq f 30 with
  | false => rw [hf] at h; exact k30a_ok f T C r outs h
  | true =>
    have hf' := Nat.eq_of_beq_eq_true hf
    subst hf'
    rw [hf] at h
    dsimp only at h
    cases hs : sp30b T C with
    | none => rw [hs] at h; exact k30a_ok _ T C r outs h
    | some x =>
      rw [hs] at h
      have hx : x = (true, r, outs) := by simpa using h
      subst hx
      unfold sp30b at hs
      split at hs
      · rename_i tk es
        obtain ⟨hb, rfl, rfl⟩ := spT_inv hs
        have he := ev30b tk es
        rw [hb, cond_true] at he
        obtain ⟨r0, o0, h0, he⟩ := evFin_inv he
        obtain ⟨h1, h2⟩ := fn_ok mixed plain (gk_ok k30a_ok 30) Try.func30 (fun c _ => LoopsOK.none (fun _ _ => rfl) c) h0
        exact ⟨h1, h2.fin he⟩
      · cases hs
noncomputable def rn33_2_0 (t0k : Tk) (t0 : List (List AV)) (t5 : Int) : Int := IntKind.i64.wrap (t5 - (1 : Int))
noncomputable def rn33_2_1 (t0k : Tk) (t0 : List (List AV)) (t5 : Int) : Int := IntKind.i64.wrap (intOf ((t0.getD t5.toNat []).getD ((0 : Nat) + (1 : Nat)) AV.junk) - intOf ((t0.getD (rn33_2_0 t0k t0 t5).toNat []).getD ((0 : Nat) + (1 : Nat)) AV.junk))
noncomputable def go33_2 (t0k : Tk) (t0 : List (List AV)) (t5 : Int) : Bool := bif decide (t5 > (0 : Int)) then bif decide ((0 : Int) ≤ t5) && decide (t5 < (↑t0.length : Int)) then bif decide ((0 : Int) ≤ rn33_2_0 t0k t0 t5) && decide (rn33_2_0 t0k t0 t5 < (↑t0.length : Int)) then bif decide (rn33_2_1 t0k t0 t5 < (0 : Int)) then false else true else false else false else false
noncomputable def xc33_2_0 (t0k : Tk) (t0 : List (List AV)) (t5 : Int) : Bool := bif decide (t5 > (0 : Int)) then bif decide ((0 : Int) ≤ t5) && decide (t5 < (↑t0.length : Int)) then bif decide ((0 : Int) ≤ rn33_2_0 t0k t0 t5) && decide (rn33_2_0 t0k t0 t5 < (↑t0.length : Int)) then decide (rn33_2_1 t0k t0 t5 < (0 : Int)) else false else false else false
noncomputable def xc33_2_1 (t0k : Tk) (t0 : List (List AV)) (t5 : Int) : Bool := bif decide (t5 > (0 : Int)) then false else true
theorem rd33_2 (rest : Lsp) (t0k : Tk) (t0 : List (List AV)) (t5 : Int) : roundV (cfg Try.prog tab 100000 (gk k30b 30) rest 33 0 Try.f33.ntmps) (loopAt Try.f33 2) [0, 1, 5] [] [4] [] [AV.sl t0k [Kd.sl [Kd.int IntKind.u16, Kd.int IntKind.u32], Kd.int IntKind.i64] t0, AV.fn (nat_lit 34) [], AV.int IntKind.i64 t5] [] = bif go33_2 t0k t0 t5 then some (Ex.norm, [AV.sl t0k [Kd.sl [Kd.int IntKind.u16, Kd.int IntKind.u32], Kd.int IntKind.i64] t0, AV.fn (nat_lit 34) [], AV.int IntKind.i64 (rn33_2_0 t0k t0 t5)], []) else bif xc33_2_0 t0k t0 t5 then some (Ex.ret, [AV.bool false], []) else bif xc33_2_1 t0k t0 t5 then some (Ex.exit (nat_lit 0), [AV.junk], []) else none := by
  have h : roundV (cfg Try.prog tab 100000 (gk k30b 30) rest 33 0 Try.f33.ntmps) (loopAt Try.f33 2) [0, 1, 5] [] [4] [] [AV.sl t0k [Kd.sl [Kd.int IntKind.u16, Kd.int IntKind.u32], Kd.int IntKind.i64] t0, AV.fn (nat_lit 34) [], AV.int IntKind.i64 t5] [] = bif decide (t5 > (0 : Int)) then bif decide ((0 : Int) ≤ t5) && decide (t5 < (↑t0.length : Int)) then bif decide ((0 : Int) ≤ rn33_2_0 t0k t0 t5) && decide (rn33_2_0 t0k t0 t5 < (↑t0.length : Int)) then bif decide (rn33_2_1 t0k t0 t5 < (0 : Int)) then some (Ex.ret, [AV.bool false], []) else some (Ex.norm, [AV.sl t0k [Kd.sl [Kd.int IntKind.u16, Kd.int IntKind.u32], Kd.int IntKind.i64] t0, AV.fn (nat_lit 34) [], AV.int IntKind.i64 (rn33_2_0 t0k t0 t5)], []) else none else none else some (Ex.exit (nat_lit 0), [AV.junk], []) := by kernel_rfl
  rw [h]
  clear h
  unfold go33_2 xc33_2_0 xc33_2_1
  generalize (decide ((0 : Int) ≤ rn33_2_0 t0k t0 t5) && decide (rn33_2_0 t0k t0 t5 < (↑t0.length : Int))) = c0
  generalize (decide ((0 : Int) ≤ t5) && decide (t5 < (↑t0.length : Int))) = c1
  generalize (decide (rn33_2_1 t0k t0 t5 < (0 : Int))) = c2
  generalize (decide (t5 > (0 : Int))) = c3
  cases c3
  · skip
    rfl
  · skip
    cases c1
    · skip
      rfl
    · skip
      cases c0
      · skip
        rfl
      · skip
        cases c2
        · skip
          rfl
        · skip
          rfl
abbrev pl33_2 : Type := Tk × (List (List AV))
abbrev sl33_2 : Type := Int
noncomputable def vt33_2 (a : pl33_2 × sl33_2) : List AV := [AV.sl a.1.1 [Kd.sl [Kd.int IntKind.u16, Kd.int IntKind.u32], Kd.int IntKind.i64] a.1.2, AV.fn (nat_lit 34) [], AV.int IntKind.i64 a.2]
noncomputable def vc33_2 (a : pl33_2 × sl33_2) : List Blk := []
noncomputable def de33_2 (vt : List AV) (vc : List Blk) : Option (pl33_2 × sl33_2) :=
  match vt with
  | [qa0, qa1, qa2] => (match vc with
  | [] => (match qa0 with
  | AV.sl t0k [Kd.sl [Kd.int IntKind.u16, Kd.int IntKind.u32], Kd.int IntKind.i64] t0 => (match qa1 with
  | AV.fn (34) [] => (match qa2 with
  | AV.int IntKind.i64 t5 => (some ((t0k, t0), t5))
  | _ => none)
  | _ => none)
  | _ => none)
  | _ => none)
  | _ => none
theorem de33_2_ok (vt : List AV) (vc : List Blk) (a : pl33_2 × sl33_2) (h : de33_2 vt vc = some a) : vt = vt33_2 a ∧ vc = vc33_2 a := by
  unfold de33_2 at h
  split at h
  rotate_left
  · cases h
  split at h
  rotate_left
  · cases h
  split at h
  rotate_left
  · cases h
  split at h
  rotate_left
  · cases h
  split at h
  rotate_left
  · cases h
  injection h with h
  subst h
  exact ⟨rfl, rfl⟩
noncomputable def g33_2 (p : pl33_2) (s : sl33_2) : Bool := go33_2 p.1 p.2 s
noncomputable def n33_2 (p : pl33_2) (s : sl33_2) : sl33_2 := rn33_2_0 p.1 p.2 s
noncomputable def y33_2 (p : pl33_2) (s : sl33_2) : List (Bool × Out) := [(xc33_2_0 p.1 p.2 s, (Ex.ret, [AV.bool false], []))]
noncomputable def z33_2 (p : pl33_2) (s : sl33_2) : Bool := xc33_2_1 p.1 p.2 s
noncomputable def d33_2 (p : pl33_2) (s : sl33_2) : Out := (Ex.exit (nat_lit 0), [AV.junk], [])
noncomputable def ls33_2 : St → Option (Bool × List (Bool × Ex × St) × Ex × St) := lspOf [0, 1, 5] [] [4] [] Try.f33.ntmps (0 + tab.nid 33) de33_2 (spI g33_2 n33_2 y33_2 z33_2 d33_2)
theorem lo33_2 (rest : Lsp) : LoopOK1 (cfg Try.prog tab 100000 (gk k30b 30) (selL 2 ls33_2 rest) 33 0 Try.f33.ntmps) (loopAt Try.f33 2) := LoopOK1.iter (i := 2) (by kernel_rfl) [0, 1, 5] [] [4] [] vt33_2 vc33_2 de33_2 g33_2 n33_2 y33_2 z33_2 d33_2 (fun _ => rfl) de33_2_ok (fun p s => rd33_2 (selL 2 ls33_2 rest) (p.1) (p.2) s) (fun _ _ => rfl)
noncomputable def lsp33 : Lsp := (selL 2 ls33_2 noLsp)
theorem loops33 : ∀ c, Try.f33.body = some c → LoopsOK (cfg Try.prog tab 100000 (gk k30b 30) lsp33 33 0 Try.f33.ntmps) c := loops_of [2] (by kernel_rfl) (by kernel_rfl) (fun i hi => by
  simp only [List.mem_cons, List.not_mem_nil, or_false] at hi
  subst hi
  · exact lo33_2 noLsp)
noncomputable def rev33_0 (tk : Tk) (es : List (List AV)) : Int := IntKind.i64.wrap ((↑es.length : Int) - (1 : Int))
noncomputable def rev33_1 (tk : Tk) (es : List (List AV)) : sl33_2 := finL (g33_2 (tk, es)) (n33_2 (tk, es)) (rev33_0 tk es)
noncomputable def vev33_0 (tk : Tk) (es : List (List AV)) : Bool := bif xc33_2_0 tk es (rev33_1 tk es) then false else true
noncomputable def vev33_1 (tk : Tk) (es : List (List AV)) : Bool := bif (spI g33_2 n33_2 y33_2 z33_2 d33_2 ((tk, es), rev33_0 tk es)).fst then true else false
theorem ev33 (tk : Tk) (es : List (List AV)) : evFin (cfg Try.prog tab 100000 (gk k30b 30) lsp33 33 ([] : List Blk).length Try.f33.ntmps) ([] : List Blk).length Try.f33.resultTypes.toList Try.f33 [.sl tk [.sl [.int .u16, .int .u32], .int .i64] es, .fn 34 []] [] = bif vev33_1 tk es then some (true, AV.bool (vev33_0 tk es), []) else none := by
  have h : evFin (cfg Try.prog tab 100000 (gk k30b 30) lsp33 33 ([] : List Blk).length Try.f33.ntmps) ([] : List Blk).length Try.f33.resultTypes.toList Try.f33 [.sl tk [.sl [.int .u16, .int .u32], .int .i64] es, .fn 34 []] [] = bif (spI g33_2 n33_2 y33_2 z33_2 d33_2 ((tk, es), rev33_0 tk es)).fst then bif xc33_2_0 tk es (rev33_1 tk es) then some (true, AV.bool false, []) else some (true, AV.bool true, []) else none := by kernel_rfl
  rw [h]
  clear h
  unfold vev33_0 vev33_1
  generalize ((spI g33_2 n33_2 y33_2 z33_2 d33_2 ((tk, es), rev33_0 tk es)).fst) = c0
  generalize (xc33_2_0 tk es (rev33_1 tk es)) = c1
  cases c0
  · skip
    rfl
  · skip
    cases c1
    · skip
      rfl
    · skip
      rfl
-- spec vev33_1 tk es ;; (true, AV.bool (vev33_0 tk es), [])
noncomputable def sp33 : List AV → List Blk → Option (Bool × AV × List Blk)
  | [.sl tk [.sl [.int .u16, .int .u32], .int .i64] es, .fn 34 []], [] => spW (vev33_1 tk es) (some ((true, AV.bool (vev33_0 tk es), [])))
  | _, _ => none
noncomputable def k33 : Gam := fun f T C => match Nat.beq f 33 with
  | true => (sp33 T C).or (k30b f T C)
  | false => k30b f T C
theorem k33_ok : GamOK Try.prog k33 := by
  intro f T C r outs h
  unfold k33 at h
  cases hf : Nat.beq f 33 with
  | false => rw [hf] at h; exact k30b_ok f T C r outs h
  | true =>
    have hf' := Nat.eq_of_beq_eq_true hf
    subst hf'
    rw [hf] at h
    dsimp only at h
    cases hs : sp33 T C with
    | none => rw [hs] at h; exact k30b_ok _ T C r outs h
    | some x =>
      rw [hs] at h
      have hx : x = (true, r, outs) := by simpa using h
      subst hx
      unfold sp33 at hs
      split at hs
      · rename_i tk es
        obtain ⟨hb, rfl, rfl⟩ := spT_inv hs
        have he := ev33 tk es
        rw [hb, cond_true] at he
        obtain ⟨r0, o0, h0, he⟩ := evFin_inv he
        obtain ⟨h1, h2⟩ := fn_ok mixed plain (gk_ok k30b_ok 30) Try.func33 loops33 h0
        exact ⟨h1, h2.fin he⟩
      · cases hs
noncomputable def vev17_0 (tk : Tk) (es : List (List AV)) : Int := bif decide ((↑es.length : Int) > (4 : Int)) then (7 : Int) else bif vev30a_0 tk es then (5 : Int) else bif vev30b_0 tk es then (8 : Int) else bif !vev33_0 tk es then (10 : Int) else (0 : Int)
noncomputable def vev17_1 (tk : Tk) (es : List (List AV)) : Bool := bif decide ((↑es.length : Int) > (4 : Int)) then true else bif vev30a_1 tk es then bif vev30a_0 tk es then true else bif vev30b_1 tk es then bif vev30b_0 tk es then true else bif vev33_1 tk es then true else false else false else false
theorem ev17 (tk : Tk) (es : List (List AV)) : evFin (cfg Try.prog tab 100000 (gk k33 30) noLsp 17 ([] : List Blk).length Try.f17.ntmps) ([] : List Blk).length Try.f17.resultTypes.toList Try.f17 [.sl tk [.sl [.int .u16, .int .u32], .int .i64] es] [] = bif vev17_1 tk es then some (true, AV.int IntKind.i64 (vev17_0 tk es), []) else none := by
  have h : evFin (cfg Try.prog tab 100000 (gk k33 30) noLsp 17 ([] : List Blk).length Try.f17.ntmps) ([] : List Blk).length Try.f17.resultTypes.toList Try.f17 [.sl tk [.sl [.int .u16, .int .u32], .int .i64] es] [] = bif decide ((↑es.length : Int) > (4 : Int)) then some (true, AV.int IntKind.i64 (7 : Int), []) else bif vev30a_1 tk es then bif vev30a_0 tk es then some (true, AV.int IntKind.i64 (5 : Int), []) else bif vev30b_1 tk es then bif vev30b_0 tk es then some (true, AV.int IntKind.i64 (8 : Int), []) else bif vev33_1 tk es then bif !vev33_0 tk es then some (true, AV.int IntKind.i64 (10 : Int), []) else some (true, AV.int IntKind.i64 (0 : Int), []) else none else none else none := by kernel_rfl
  rw [h]
  clear h
  unfold vev17_0 vev17_1
  generalize (decide ((↑es.length : Int) > (4 : Int))) = c0
  generalize (!vev33_0 tk es) = c1
  generalize (vev30a_1 tk es) = c2
  generalize (vev30a_0 tk es) = c3
  generalize (vev30b_1 tk es) = c4
  generalize (vev30b_0 tk es) = c5
  generalize (vev33_1 tk es) = c6
  cases c0
  · skip
    cases c2
    · skip
      rfl
    · skip
      cases c3
      · skip
        cases c4
        · skip
          rfl
        · skip
          cases c5
          · skip
            cases c6
            · skip
              rfl
            · skip
              cases c1
              · skip
                rfl
              · skip
                rfl
          · skip
            rfl
      · skip
        rfl
  · skip
    rfl
-- spec vev17_1 tk es ;; (true, AV.int IntKind.i64 (vev17_0 tk es), [])
noncomputable def sp17 : List AV → List Blk → Option (Bool × AV × List Blk)
  | [.sl tk [.sl [.int .u16, .int .u32], .int .i64] es], [] => spW (vev17_1 tk es) (some ((true, AV.int IntKind.i64 (vev17_0 tk es), [])))
  | _, _ => none
noncomputable def k17 : Gam := fun f T C => match Nat.beq f 17 with
  | true => (sp17 T C).or (k33 f T C)
  | false => k33 f T C
theorem k17_ok : GamOK Try.prog k17 := by
  intro f T C r outs h
  unfold k17 at h
  cases hf : Nat.beq f 17 with
  | false => rw [hf] at h; exact k33_ok f T C r outs h
  | true =>
    have hf' := Nat.eq_of_beq_eq_true hf
    subst hf'
    rw [hf] at h
    dsimp only at h
    cases hs : sp17 T C with
    | none => rw [hs] at h; exact k33_ok _ T C r outs h
    | some x =>
      rw [hs] at h
      have hx : x = (true, r, outs) := by simpa using h
      subst hx
      unfold sp17 at hs
      split at hs
      · rename_i tk es
        obtain ⟨hb, rfl, rfl⟩ := spT_inv hs
        have he := ev17 tk es
        rw [hb, cond_true] at he
        obtain ⟨r0, o0, h0, he⟩ := evFin_inv he
        obtain ⟨h1, h2⟩ := fn_ok mixed plain (gk_ok k33_ok 30) Try.func17 (fun c _ => LoopsOK.none (fun _ _ => rfl) c) h0
        exact ⟨h1, h2.fin he⟩
      · cases hs
noncomputable def rn18_4_0 (t0k : Tk) (t0 : List (List AV)) (t3 : Int) : Int := (↑(elsO ((t0.getD t3.toNat []).getD (0 : Nat) AV.junk)).length : Int)
noncomputable def go18_4 (t0k : Tk) (t0 : List (List AV)) (t3 : Int) : Bool := bif decide (t3 < (↑t0.length : Int)) then bif decide ((0 : Int) ≤ t3) && decide (t3 < (↑t0.length : Int)) then bif decide (rn18_4_0 t0k t0 t3 > (8 : Int)) then false else true else false else false
noncomputable def nx18_4_2 (t0k : Tk) (t0 : List (List AV)) (t3 : Int) : Int := IntKind.i64.wrap (t3 + (1 : Int))
noncomputable def xc18_4_0 (t0k : Tk) (t0 : List (List AV)) (t3 : Int) : Bool := bif decide (t3 < (↑t0.length : Int)) then bif decide ((0 : Int) ≤ t3) && decide (t3 < (↑t0.length : Int)) then decide (rn18_4_0 t0k t0 t3 > (8 : Int)) else false else false
noncomputable def xc18_4_1 (t0k : Tk) (t0 : List (List AV)) (t3 : Int) : Bool := bif decide (t3 < (↑t0.length : Int)) then false else true
theorem rd18_4 (rest : Lsp) (t0k : Tk) (t0 : List (List AV)) (t3 : Int) : roundV (cfg Try.prog tab 100000 (gk k17 30) rest 18 0 Try.f18.ntmps) (loopAt Try.f18 4) [0, 3] [] [0, 2] [] [AV.sl t0k [Kd.sl [Kd.int IntKind.u16, Kd.int IntKind.u32], Kd.int IntKind.i64] t0, AV.int IntKind.i64 t3] [] = bif go18_4 t0k t0 t3 then some (Ex.norm, [AV.sl t0k [Kd.sl [Kd.int IntKind.u16, Kd.int IntKind.u32], Kd.int IntKind.i64] t0, AV.int IntKind.i64 (nx18_4_2 t0k t0 t3)], []) else bif xc18_4_0 t0k t0 t3 then some (Ex.ret, [AV.sl t0k [Kd.sl [Kd.int IntKind.u16, Kd.int IntKind.u32], Kd.int IntKind.i64] t0, AV.int IntKind.i64 (5 : Int)], []) else bif xc18_4_1 t0k t0 t3 then some (Ex.exit (nat_lit 0), [AV.sl t0k [Kd.sl [Kd.int IntKind.u16, Kd.int IntKind.u32], Kd.int IntKind.i64] t0, AV.junk], []) else none := by
  have h : roundV (cfg Try.prog tab 100000 (gk k17 30) rest 18 0 Try.f18.ntmps) (loopAt Try.f18 4) [0, 3] [] [0, 2] [] [AV.sl t0k [Kd.sl [Kd.int IntKind.u16, Kd.int IntKind.u32], Kd.int IntKind.i64] t0, AV.int IntKind.i64 t3] [] = bif decide (t3 < (↑t0.length : Int)) then bif decide ((0 : Int) ≤ t3) && decide (t3 < (↑t0.length : Int)) then bif decide (rn18_4_0 t0k t0 t3 > (8 : Int)) then some (Ex.ret, [AV.sl t0k [Kd.sl [Kd.int IntKind.u16, Kd.int IntKind.u32], Kd.int IntKind.i64] t0, AV.int IntKind.i64 (5 : Int)], []) else some (Ex.norm, [AV.sl t0k [Kd.sl [Kd.int IntKind.u16, Kd.int IntKind.u32], Kd.int IntKind.i64] t0, AV.int IntKind.i64 (IntKind.i64.wrap (t3 + (1 : Int)))], []) else none else some (Ex.exit (nat_lit 0), [AV.sl t0k [Kd.sl [Kd.int IntKind.u16, Kd.int IntKind.u32], Kd.int IntKind.i64] t0, AV.junk], []) := by kernel_rfl
  rw [h]
  clear h
  unfold go18_4 nx18_4_2 xc18_4_0 xc18_4_1
  generalize (decide ((0 : Int) ≤ t3) && decide (t3 < (↑t0.length : Int))) = c0
  generalize (decide (rn18_4_0 t0k t0 t3 > (8 : Int))) = c1
  generalize (decide (t3 < (↑t0.length : Int))) = c2
  cases c2
  · skip
    rfl
  · skip
    cases c0
    · skip
      rfl
    · skip
      cases c1
      · skip
        rfl
      · skip
        rfl
abbrev pl18_4 : Type := Tk × (List (List AV))
abbrev sl18_4 : Type := Int
noncomputable def vt18_4 (a : pl18_4 × sl18_4) : List AV := [AV.sl a.1.1 [Kd.sl [Kd.int IntKind.u16, Kd.int IntKind.u32], Kd.int IntKind.i64] a.1.2, AV.int IntKind.i64 a.2]
noncomputable def vc18_4 (a : pl18_4 × sl18_4) : List Blk := []
noncomputable def de18_4 (vt : List AV) (vc : List Blk) : Option (pl18_4 × sl18_4) :=
  match vt with
  | [qa0, qa1] => (match vc with
  | [] => (match qa0 with
  | AV.sl t0k [Kd.sl [Kd.int IntKind.u16, Kd.int IntKind.u32], Kd.int IntKind.i64] t0 => (match qa1 with
  | AV.int IntKind.i64 t3 => (some ((t0k, t0), t3))
  | _ => none)
  | _ => none)
  | _ => none)
  | _ => none
theorem de18_4_ok (vt : List AV) (vc : List Blk) (a : pl18_4 × sl18_4) (h : de18_4 vt vc = some a) : vt = vt18_4 a ∧ vc = vc18_4 a := by
  unfold de18_4 at h
  split at h
  rotate_left
  · cases h
  split at h
  rotate_left
  · cases h
  split at h
  rotate_left
  · cases h
  split at h
  rotate_left
  · cases h
  injection h with h
  subst h
  exact ⟨rfl, rfl⟩
noncomputable def g18_4 (p : pl18_4) (s : sl18_4) : Bool := go18_4 p.1 p.2 s
noncomputable def n18_4 (p : pl18_4) (s : sl18_4) : sl18_4 := nx18_4_2 p.1 p.2 s
noncomputable def y18_4 (p : pl18_4) (s : sl18_4) : List (Bool × Out) := [(xc18_4_0 p.1 p.2 s, (Ex.ret, [AV.sl p.1 [Kd.sl [Kd.int IntKind.u16, Kd.int IntKind.u32], Kd.int IntKind.i64] p.2, AV.int IntKind.i64 (5 : Int)], []))]
noncomputable def z18_4 (p : pl18_4) (s : sl18_4) : Bool := xc18_4_1 p.1 p.2 s
noncomputable def d18_4 (p : pl18_4) (s : sl18_4) : Out := (Ex.exit (nat_lit 0), [AV.sl p.1 [Kd.sl [Kd.int IntKind.u16, Kd.int IntKind.u32], Kd.int IntKind.i64] p.2, AV.junk], [])
noncomputable def ls18_4 : St → Option (Bool × List (Bool × Ex × St) × Ex × St) := lspOf [0, 3] [] [0, 2] [] Try.f18.ntmps (0 + tab.nid 18) de18_4 (spI g18_4 n18_4 y18_4 z18_4 d18_4)
theorem lo18_4 (rest : Lsp) : LoopOK1 (cfg Try.prog tab 100000 (gk k17 30) (selL 4 ls18_4 rest) 18 0 Try.f18.ntmps) (loopAt Try.f18 4) := LoopOK1.iter (i := 4) (by kernel_rfl) [0, 3] [] [0, 2] [] vt18_4 vc18_4 de18_4 g18_4 n18_4 y18_4 z18_4 d18_4 (fun _ => rfl) de18_4_ok (fun p s => rd18_4 (selL 4 ls18_4 rest) (p.1) (p.2) s) (fun _ _ => rfl)
noncomputable def go18_9 (t0k : Tk) (t0 : List (List AV)) (t4 : Int) : Bool := bif decide (t4 < (↑t0.length : Int)) then bif decide ((0 : Int) ≤ t4) && decide (t4 < (↑t0.length : Int)) then bif !vev29_0 (intOf ((t0.getD t4.toNat []).getD ((0 : Nat) + (1 : Nat)) AV.junk)) then false else true else false else false
noncomputable def nx18_9_2 (t0k : Tk) (t0 : List (List AV)) (t4 : Int) : Int := IntKind.i64.wrap (t4 + (1 : Int))
noncomputable def xc18_9_0 (t0k : Tk) (t0 : List (List AV)) (t4 : Int) : Bool := bif decide (t4 < (↑t0.length : Int)) then bif decide ((0 : Int) ≤ t4) && decide (t4 < (↑t0.length : Int)) then !vev29_0 (intOf ((t0.getD t4.toNat []).getD ((0 : Nat) + (1 : Nat)) AV.junk)) else false else false
noncomputable def xc18_9_1 (t0k : Tk) (t0 : List (List AV)) (t4 : Int) : Bool := bif decide (t4 < (↑t0.length : Int)) then false else true
theorem rd18_9 (rest : Lsp) (t0k : Tk) (t0 : List (List AV)) (t4 : Int) : roundV (cfg Try.prog tab 100000 (gk k17 30) (selL 4 ls18_4 rest) 18 0 Try.f18.ntmps) (loopAt Try.f18 9) [0, 4] [] [0, 2] [] [AV.sl t0k [Kd.sl [Kd.int IntKind.u16, Kd.int IntKind.u32], Kd.int IntKind.i64] t0, AV.int IntKind.i64 t4] [] = bif go18_9 t0k t0 t4 then some (Ex.norm, [AV.sl t0k [Kd.sl [Kd.int IntKind.u16, Kd.int IntKind.u32], Kd.int IntKind.i64] t0, AV.int IntKind.i64 (nx18_9_2 t0k t0 t4)], []) else bif xc18_9_0 t0k t0 t4 then some (Ex.ret, [AV.sl t0k [Kd.sl [Kd.int IntKind.u16, Kd.int IntKind.u32], Kd.int IntKind.i64] t0, AV.int IntKind.i64 (8 : Int)], []) else bif xc18_9_1 t0k t0 t4 then some (Ex.exit (nat_lit 2), [AV.sl t0k [Kd.sl [Kd.int IntKind.u16, Kd.int IntKind.u32], Kd.int IntKind.i64] t0, AV.junk], []) else none := by
  have h : roundV (cfg Try.prog tab 100000 (gk k17 30) (selL 4 ls18_4 rest) 18 0 Try.f18.ntmps) (loopAt Try.f18 9) [0, 4] [] [0, 2] [] [AV.sl t0k [Kd.sl [Kd.int IntKind.u16, Kd.int IntKind.u32], Kd.int IntKind.i64] t0, AV.int IntKind.i64 t4] [] = bif decide (t4 < (↑t0.length : Int)) then bif decide ((0 : Int) ≤ t4) && decide (t4 < (↑t0.length : Int)) then bif !vev29_0 (intOf ((t0.getD t4.toNat []).getD ((0 : Nat) + (1 : Nat)) AV.junk)) then some (Ex.ret, [AV.sl t0k [Kd.sl [Kd.int IntKind.u16, Kd.int IntKind.u32], Kd.int IntKind.i64] t0, AV.int IntKind.i64 (8 : Int)], []) else some (Ex.norm, [AV.sl t0k [Kd.sl [Kd.int IntKind.u16, Kd.int IntKind.u32], Kd.int IntKind.i64] t0, AV.int IntKind.i64 (IntKind.i64.wrap (t4 + (1 : Int)))], []) else none else some (Ex.exit (nat_lit 2), [AV.sl t0k [Kd.sl [Kd.int IntKind.u16, Kd.int IntKind.u32], Kd.int IntKind.i64] t0, AV.junk], []) := by kernel_rfl
  rw [h]
  clear h
  unfold go18_9 nx18_9_2 xc18_9_0 xc18_9_1
  generalize (decide ((0 : Int) ≤ t4) && decide (t4 < (↑t0.length : Int))) = c0
  generalize (!vev29_0 (intOf ((t0.getD t4.toNat []).getD ((0 : Nat) + (1 : Nat)) AV.junk))) = c1
  generalize (decide (t4 < (↑t0.length : Int))) = c2
  cases c2
  · skip
    rfl
  · skip
    cases c0
    · skip
      rfl
    · skip
      cases c1
      · skip
        rfl
      · skip
        rfl
abbrev pl18_9 : Type := Tk × (List (List AV))
abbrev sl18_9 : Type := Int
noncomputable def vt18_9 (a : pl18_9 × sl18_9) : List AV := [AV.sl a.1.1 [Kd.sl [Kd.int IntKind.u16, Kd.int IntKind.u32], Kd.int IntKind.i64] a.1.2, AV.int IntKind.i64 a.2]
noncomputable def vc18_9 (a : pl18_9 × sl18_9) : List Blk := []
noncomputable def de18_9 (vt : List AV) (vc : List Blk) : Option (pl18_9 × sl18_9) :=
  match vt with
  | [qa0, qa1] => (match vc with
  | [] => (match qa0 with
  | AV.sl t0k [Kd.sl [Kd.int IntKind.u16, Kd.int IntKind.u32], Kd.int IntKind.i64] t0 => (match qa1 with
  | AV.int IntKind.i64 t4 => (some ((t0k, t0), t4))
  | _ => none)
  | _ => none)
  | _ => none)
  | _ => none
theorem de18_9_ok (vt : List AV) (vc : List Blk) (a : pl18_9 × sl18_9) (h : de18_9 vt vc = some a) : vt = vt18_9 a ∧ vc = vc18_9 a := by
  unfold de18_9 at h
  split at h
  rotate_left
  · cases h
  split at h
  rotate_left
  · cases h
  split at h
  rotate_left
  · cases h
  split at h
  rotate_left
  · cases h
  injection h with h
  subst h
  exact ⟨rfl, rfl⟩
noncomputable def g18_9 (p : pl18_9) (s : sl18_9) : Bool := go18_9 p.1 p.2 s
noncomputable def n18_9 (p : pl18_9) (s : sl18_9) : sl18_9 := nx18_9_2 p.1 p.2 s
noncomputable def y18_9 (p : pl18_9) (s : sl18_9) : List (Bool × Out) := [(xc18_9_0 p.1 p.2 s, (Ex.ret, [AV.sl p.1 [Kd.sl [Kd.int IntKind.u16, Kd.int IntKind.u32], Kd.int IntKind.i64] p.2, AV.int IntKind.i64 (8 : Int)], []))]
noncomputable def z18_9 (p : pl18_9) (s : sl18_9) : Bool := xc18_9_1 p.1 p.2 s
noncomputable def d18_9 (p : pl18_9) (s : sl18_9) : Out := (Ex.exit (nat_lit 2), [AV.sl p.1 [Kd.sl [Kd.int IntKind.u16, Kd.int IntKind.u32], Kd.int IntKind.i64] p.2, AV.junk], [])
noncomputable def ls18_9 : St → Option (Bool × List (Bool × Ex × St) × Ex × St) := lspOf [0, 4] [] [0, 2] [] Try.f18.ntmps (0 + tab.nid 18) de18_9 (spI g18_9 n18_9 y18_9 z18_9 d18_9)
theorem lo18_9 (rest : Lsp) : LoopOK1 (cfg Try.prog tab 100000 (gk k17 30) (selL 4 ls18_4 (selL 9 ls18_9 rest)) 18 0 Try.f18.ntmps) (loopAt Try.f18 9) := LoopOK1.iter (i := 9) (by kernel_rfl) [0, 4] [] [0, 2] [] vt18_9 vc18_9 de18_9 g18_9 n18_9 y18_9 z18_9 d18_9 (fun _ => rfl) de18_9_ok (fun p s => rd18_9 (selL 9 ls18_9 rest) (p.1) (p.2) s) (fun _ _ => rfl)
noncomputable def rn18_14_0 (t0k : Tk) (t0 : List (List AV)) (t5 : Int) : Int := IntKind.i64.wrap (t5 - (1 : Int))
noncomputable def rn18_14_1 (t0k : Tk) (t0 : List (List AV)) (t5 : Int) : Int := intOf ((t0.getD t5.toNat []).getD ((0 : Nat) + (1 : Nat)) AV.junk)
noncomputable def rn18_14_2 (t0k : Tk) (t0 : List (List AV)) (t5 : Int) : Int := intOf ((t0.getD (rn18_14_0 t0k t0 t5).toNat []).getD ((0 : Nat) + (1 : Nat)) AV.junk)
noncomputable def go18_14 (t0k : Tk) (t0 : List (List AV)) (t5 : Int) : Bool := bif decide (t5 < (↑t0.length : Int)) then bif decide ((0 : Int) ≤ t5) && decide (t5 < (↑t0.length : Int)) then bif decide ((0 : Int) ≤ rn18_14_0 t0k t0 t5) && decide (rn18_14_0 t0k t0 t5 < (↑t0.length : Int)) then bif decide (rn18_14_1 t0k t0 t5 < rn18_14_2 t0k t0 t5) then false else true else false else false else false
noncomputable def nx18_14_2 (t0k : Tk) (t0 : List (List AV)) (t5 : Int) : Int := IntKind.i64.wrap (t5 + (1 : Int))
noncomputable def xc18_14_0 (t0k : Tk) (t0 : List (List AV)) (t5 : Int) : Bool := bif decide (t5 < (↑t0.length : Int)) then bif decide ((0 : Int) ≤ t5) && decide (t5 < (↑t0.length : Int)) then bif decide ((0 : Int) ≤ rn18_14_0 t0k t0 t5) && decide (rn18_14_0 t0k t0 t5 < (↑t0.length : Int)) then decide (rn18_14_1 t0k t0 t5 < rn18_14_2 t0k t0 t5) else false else false else false
noncomputable def xc18_14_1 (t0k : Tk) (t0 : List (List AV)) (t5 : Int) : Bool := bif decide (t5 < (↑t0.length : Int)) then false else true
theorem rd18_14 (rest : Lsp) (t0k : Tk) (t0 : List (List AV)) (t5 : Int) : roundV (cfg Try.prog tab 100000 (gk k17 30) (selL 4 ls18_4 (selL 9 ls18_9 rest)) 18 0 Try.f18.ntmps) (loopAt Try.f18 14) [0, 5] [] [2] [] [AV.sl t0k [Kd.sl [Kd.int IntKind.u16, Kd.int IntKind.u32], Kd.int IntKind.i64] t0, AV.int IntKind.i64 t5] [] = bif go18_14 t0k t0 t5 then some (Ex.norm, [AV.sl t0k [Kd.sl [Kd.int IntKind.u16, Kd.int IntKind.u32], Kd.int IntKind.i64] t0, AV.int IntKind.i64 (nx18_14_2 t0k t0 t5)], []) else bif xc18_14_0 t0k t0 t5 then some (Ex.ret, [AV.int IntKind.i64 (10 : Int)], []) else bif xc18_14_1 t0k t0 t5 then some (Ex.exit (nat_lit 4), [AV.junk], []) else none := by
  have h : roundV (cfg Try.prog tab 100000 (gk k17 30) (selL 4 ls18_4 (selL 9 ls18_9 rest)) 18 0 Try.f18.ntmps) (loopAt Try.f18 14) [0, 5] [] [2] [] [AV.sl t0k [Kd.sl [Kd.int IntKind.u16, Kd.int IntKind.u32], Kd.int IntKind.i64] t0, AV.int IntKind.i64 t5] [] = bif decide (t5 < (↑t0.length : Int)) then bif decide ((0 : Int) ≤ t5) && decide (t5 < (↑t0.length : Int)) then bif decide ((0 : Int) ≤ rn18_14_0 t0k t0 t5) && decide (rn18_14_0 t0k t0 t5 < (↑t0.length : Int)) then bif decide (rn18_14_1 t0k t0 t5 < rn18_14_2 t0k t0 t5) then some (Ex.ret, [AV.int IntKind.i64 (10 : Int)], []) else some (Ex.norm, [AV.sl t0k [Kd.sl [Kd.int IntKind.u16, Kd.int IntKind.u32], Kd.int IntKind.i64] t0, AV.int IntKind.i64 (IntKind.i64.wrap (t5 + (1 : Int)))], []) else none else none else some (Ex.exit (nat_lit 4), [AV.junk], []) := by kernel_rfl
  rw [h]
  clear h
  unfold go18_14 nx18_14_2 xc18_14_0 xc18_14_1
  generalize (decide ((0 : Int) ≤ rn18_14_0 t0k t0 t5) && decide (rn18_14_0 t0k t0 t5 < (↑t0.length : Int))) = c0
  generalize (decide ((0 : Int) ≤ t5) && decide (t5 < (↑t0.length : Int))) = c1
  generalize (decide (rn18_14_1 t0k t0 t5 < rn18_14_2 t0k t0 t5)) = c2
  generalize (decide (t5 < (↑t0.length : Int))) = c3
  cases c3
  · skip
    rfl
  · skip
    cases c1
    · skip
      rfl
    · skip
      cases c0
      · skip
        rfl
      · skip
        cases c2
        · skip
          rfl
        · skip
          rfl
abbrev pl18_14 : Type := Tk × (List (List AV))
abbrev sl18_14 : Type := Int
noncomputable def vt18_14 (a : pl18_14 × sl18_14) : List AV := [AV.sl a.1.1 [Kd.sl [Kd.int IntKind.u16, Kd.int IntKind.u32], Kd.int IntKind.i64] a.1.2, AV.int IntKind.i64 a.2]
noncomputable def vc18_14 (a : pl18_14 × sl18_14) : List Blk := []
noncomputable def de18_14 (vt : List AV) (vc : List Blk) : Option (pl18_14 × sl18_14) :=
  match vt with
  | [qa0, qa1] => (match vc with
  | [] => (match qa0 with
  | AV.sl t0k [Kd.sl [Kd.int IntKind.u16, Kd.int IntKind.u32], Kd.int IntKind.i64] t0 => (match qa1 with
  | AV.int IntKind.i64 t5 => (some ((t0k, t0), t5))
  | _ => none)
  | _ => none)
  | _ => none)
  | _ => none
theorem de18_14_ok (vt : List AV) (vc : List Blk) (a : pl18_14 × sl18_14) (h : de18_14 vt vc = some a) : vt = vt18_14 a ∧ vc = vc18_14 a := by
  unfold de18_14 at h
  split at h
  rotate_left
  · cases h
  split at h
  rotate_left
  · cases h
  split at h
  rotate_left
  · cases h
  split at h
  rotate_left
  · cases h
  injection h with h
  subst h
  exact ⟨rfl, rfl⟩
noncomputable def g18_14 (p : pl18_14) (s : sl18_14) : Bool := go18_14 p.1 p.2 s
noncomputable def n18_14 (p : pl18_14) (s : sl18_14) : sl18_14 := nx18_14_2 p.1 p.2 s
noncomputable def y18_14 (p : pl18_14) (s : sl18_14) : List (Bool × Out) := [(xc18_14_0 p.1 p.2 s, (Ex.ret, [AV.int IntKind.i64 (10 : Int)], []))]
noncomputable def z18_14 (p : pl18_14) (s : sl18_14) : Bool := xc18_14_1 p.1 p.2 s
noncomputable def d18_14 (p : pl18_14) (s : sl18_14) : Out := (Ex.exit (nat_lit 4), [AV.junk], [])
noncomputable def ls18_14 : St → Option (Bool × List (Bool × Ex × St) × Ex × St) := lspOf [0, 5] [] [2] [] Try.f18.ntmps (0 + tab.nid 18) de18_14 (spI g18_14 n18_14 y18_14 z18_14 d18_14)
theorem lo18_14 (rest : Lsp) : LoopOK1 (cfg Try.prog tab 100000 (gk k17 30) (selL 4 ls18_4 (selL 9 ls18_9 (selL 14 ls18_14 rest))) 18 0 Try.f18.ntmps) (loopAt Try.f18 14) := LoopOK1.iter (i := 14) (by kernel_rfl) [0, 5] [] [2] [] vt18_14 vc18_14 de18_14 g18_14 n18_14 y18_14 z18_14 d18_14 (fun _ => rfl) de18_14_ok (fun p s => rd18_14 (selL 14 ls18_14 rest) (p.1) (p.2) s) (fun _ _ => rfl)
noncomputable def lsp18 : Lsp := (selL 4 ls18_4 (selL 9 ls18_9 (selL 14 ls18_14 noLsp)))
theorem loops18 : ∀ c, Try.f18.body = some c → LoopsOK (cfg Try.prog tab 100000 (gk k17 30) lsp18 18 0 Try.f18.ntmps) c := loops_of [4, 9, 14] (by kernel_rfl) (by kernel_rfl) (fun i hi => by
  simp only [List.mem_cons, List.not_mem_nil, or_false] at hi
  rcases hi with rfl | rfl | rfl
  · exact lo18_4 (selL 9 ls18_9 (selL 14 ls18_14 noLsp))
  · exact lo18_9 (selL 14 ls18_14 noLsp)
  · exact lo18_14 noLsp)
noncomputable def rev18_0 (tk : Tk) (es : List (List AV)) : sl18_4 := finL (g18_4 (tk, es)) (n18_4 (tk, es)) (0 : Int)
noncomputable def rev18_1 (tk : Tk) (es : List (List AV)) : sl18_9 := finL (g18_9 (tk, es)) (n18_9 (tk, es)) (0 : Int)
noncomputable def rev18_2 (tk : Tk) (es : List (List AV)) : sl18_14 := finL (g18_14 (tk, es)) (n18_14 (tk, es)) (1 : Int)
noncomputable def vev18_0 (tk : Tk) (es : List (List AV)) : Int := bif decide ((↑es.length : Int) > (4 : Int)) then (7 : Int) else bif xc18_4_0 tk es (rev18_0 tk es) then (5 : Int) else bif xc18_9_0 tk es (rev18_1 tk es) then (8 : Int) else bif xc18_14_0 tk es (rev18_2 tk es) then (10 : Int) else (0 : Int)
noncomputable def vev18_1 (tk : Tk) (es : List (List AV)) : Bool := bif decide ((↑es.length : Int) > (4 : Int)) then true else bif (spI g18_4 n18_4 y18_4 z18_4 d18_4 ((tk, es), (0 : Int))).fst then bif xc18_4_0 tk es (rev18_0 tk es) then true else bif (spI g18_9 n18_9 y18_9 z18_9 d18_9 ((tk, es), (0 : Int))).fst then bif xc18_9_0 tk es (rev18_1 tk es) then true else bif (spI g18_14 n18_14 y18_14 z18_14 d18_14 ((tk, es), (1 : Int))).fst then true else false else false else false
theorem ev18 (tk : Tk) (es : List (List AV)) : evFin (cfg Try.prog tab 100000 (gk k17 30) lsp18 18 ([] : List Blk).length Try.f18.ntmps) ([] : List Blk).length Try.f18.resultTypes.toList Try.f18 [.sl tk [.sl [.int .u16, .int .u32], .int .i64] es] [] = bif vev18_1 tk es then some (true, AV.int IntKind.i64 (vev18_0 tk es), []) else none := by
  have h : evFin (cfg Try.prog tab 100000 (gk k17 30) lsp18 18 ([] : List Blk).length Try.f18.ntmps) ([] : List Blk).length Try.f18.resultTypes.toList Try.f18 [.sl tk [.sl [.int .u16, .int .u32], .int .i64] es] [] = bif decide ((↑es.length : Int) > (4 : Int)) then some (true, AV.int IntKind.i64 (7 : Int), []) else bif (spI g18_4 n18_4 y18_4 z18_4 d18_4 ((tk, es), (0 : Int))).fst then bif xc18_4_0 tk es (rev18_0 tk es) then some (true, AV.int IntKind.i64 (5 : Int), []) else bif (spI g18_9 n18_9 y18_9 z18_9 d18_9 ((tk, es), (0 : Int))).fst then bif xc18_9_0 tk es (rev18_1 tk es) then some (true, AV.int IntKind.i64 (8 : Int), []) else bif (spI g18_14 n18_14 y18_14 z18_14 d18_14 ((tk, es), (1 : Int))).fst then bif xc18_14_0 tk es (rev18_2 tk es) then some (true, AV.int IntKind.i64 (10 : Int), []) else some (true, AV.int IntKind.i64 (0 : Int), []) else none else none else none := by kernel_rfl
  rw [h]
  clear h
  unfold vev18_0 vev18_1
  generalize ((spI g18_4 n18_4 y18_4 z18_4 d18_4 ((tk, es), (0 : Int))).fst) = c0
  generalize ((spI g18_9 n18_9 y18_9 z18_9 d18_9 ((tk, es), (0 : Int))).fst) = c1
  generalize ((spI g18_14 n18_14 y18_14 z18_14 d18_14 ((tk, es), (1 : Int))).fst) = c2
  generalize (decide ((↑es.length : Int) > (4 : Int))) = c3
  generalize (xc18_14_0 tk es (rev18_2 tk es)) = c4
  generalize (xc18_9_0 tk es (rev18_1 tk es)) = c5
  generalize (xc18_4_0 tk es (rev18_0 tk es)) = c6
  cases c3
  · skip
    cases c0
    · skip
      rfl
    · skip
      cases c6
      · skip
        cases c1
        · skip
          rfl
        · skip
          cases c5
          · skip
            cases c2
            · skip
              rfl
            · skip
              cases c4
              · skip
                rfl
              · skip
                rfl
          · skip
            rfl
      · skip
        rfl
  · skip
    rfl
-- spec vev18_1 tk es ;; (true, AV.int IntKind.i64 (vev18_0 tk es), [])
noncomputable def sp18 : List AV → List Blk → Option (Bool × AV × List Blk)
  | [.sl tk [.sl [.int .u16, .int .u32], .int .i64] es], [] => spW (vev18_1 tk es) (some ((true, AV.int IntKind.i64 (vev18_0 tk es), [])))
  | _, _ => none
noncomputable def k18 : Gam := fun f T C => match Nat.beq f 18 with
  | true => (sp18 T C).or (k17 f T C)
  | false => k17 f T C
theorem k18_ok : GamOK Try.prog k18 := by
  intro f T C r outs h
  unfold k18 at h
  cases hf : Nat.beq f 18 with
  | false => rw [hf] at h; exact k17_ok f T C r outs h
  | true =>
    have hf' := Nat.eq_of_beq_eq_true hf
    subst hf'
    rw [hf] at h
    dsimp only at h
    cases hs : sp18 T C with
    | none => rw [hs] at h; exact k17_ok _ T C r outs h
    | some x =>
      rw [hs] at h
      have hx : x = (true, r, outs) := by simpa using h
      subst hx
      unfold sp18 at hs
      split at hs
      · rename_i tk es
        obtain ⟨hb, rfl, rfl⟩ := spT_inv hs
        have he := ev18 tk es
        rw [hb, cond_true] at he
        obtain ⟨r0, o0, h0, he⟩ := evFin_inv he
        obtain ⟨h1, h2⟩ := fn_ok mixed plain (gk_ok k17_ok 30) Try.func18 loops18 h0
        exact ⟨h1, h2.fin he⟩
      · cases hs
noncomputable def go39_4 (t0k : Tk) (t0 : List (List AV)) (t1k : Tk) (t1 : List (List AV)) (t12 : Int) (t13 : Int) : Bool := bif decide (t13 < t12) then bif decide ((0 : Int) ≤ t13) && decide (t13 < (↑t0.length : Int)) then bif decide ((0 : Int) ≤ t13) && decide (t13 < (↑t1.length : Int)) then bif !(intOf ((t0.getD t13.toNat []).getD (0 : Nat) AV.junk) == intOf ((t1.getD t13.toNat []).getD (0 : Nat) AV.junk) && (intOf ((t0.getD t13.toNat []).getD ((0 : Nat) + (1 : Nat)) AV.junk) == intOf ((t1.getD t13.toNat []).getD ((0 : Nat) + (1 : Nat)) AV.junk) && true)) then false else true else false else false else false
noncomputable def nx39_4_5 (t0k : Tk) (t0 : List (List AV)) (t1k : Tk) (t1 : List (List AV)) (t12 : Int) (t13 : Int) : Int := IntKind.i64.wrap (t13 + (1 : Int))
noncomputable def xc39_4_0 (t0k : Tk) (t0 : List (List AV)) (t1k : Tk) (t1 : List (List AV)) (t12 : Int) (t13 : Int) : Bool := bif decide (t13 < t12) then bif decide ((0 : Int) ≤ t13) && decide (t13 < (↑t0.length : Int)) then bif decide ((0 : Int) ≤ t13) && decide (t13 < (↑t1.length : Int)) then !(intOf ((t0.getD t13.toNat []).getD (0 : Nat) AV.junk) == intOf ((t1.getD t13.toNat []).getD (0 : Nat) AV.junk) && (intOf ((t0.getD t13.toNat []).getD ((0 : Nat) + (1 : Nat)) AV.junk) == intOf ((t1.getD t13.toNat []).getD ((0 : Nat) + (1 : Nat)) AV.junk) && true)) else false else false else false
noncomputable def xc39_4_1 (t0k : Tk) (t0 : List (List AV)) (t1k : Tk) (t1 : List (List AV)) (t12 : Int) (t13 : Int) : Bool := bif decide (t13 < t12) then false else true
theorem rd39_4 (rest : Lsp) (t0k : Tk) (t0 : List (List AV)) (t1k : Tk) (t1 : List (List AV)) (t12 : Int) (t13 : Int) : roundV (cfg Try.prog tab 100000 (gk k18 30) rest 39 0 Try.f39.ntmps) (loopAt Try.f39 4) [0, 1, 12, 13] [] [4] [] [AV.sl t0k [Kd.int IntKind.u16, Kd.int IntKind.u32] t0, AV.sl t1k [Kd.int IntKind.u16, Kd.int IntKind.u32] t1, AV.int IntKind.i64 t12, AV.int IntKind.i64 t13] [] = bif go39_4 t0k t0 t1k t1 t12 t13 then some (Ex.norm, [AV.sl t0k [Kd.int IntKind.u16, Kd.int IntKind.u32] t0, AV.sl t1k [Kd.int IntKind.u16, Kd.int IntKind.u32] t1, AV.int IntKind.i64 t12, AV.int IntKind.i64 (nx39_4_5 t0k t0 t1k t1 t12 t13)], []) else bif xc39_4_0 t0k t0 t1k t1 t12 t13 then some (Ex.ret, [AV.bool false], []) else bif xc39_4_1 t0k t0 t1k t1 t12 t13 then some (Ex.exit (nat_lit 0), [AV.junk], []) else none := by
  have h : roundV (cfg Try.prog tab 100000 (gk k18 30) rest 39 0 Try.f39.ntmps) (loopAt Try.f39 4) [0, 1, 12, 13] [] [4] [] [AV.sl t0k [Kd.int IntKind.u16, Kd.int IntKind.u32] t0, AV.sl t1k [Kd.int IntKind.u16, Kd.int IntKind.u32] t1, AV.int IntKind.i64 t12, AV.int IntKind.i64 t13] [] = bif decide (t13 < t12) then bif decide ((0 : Int) ≤ t13) && decide (t13 < (↑t0.length : Int)) then bif decide ((0 : Int) ≤ t13) && decide (t13 < (↑t1.length : Int)) then bif !(intOf ((t0.getD t13.toNat []).getD (0 : Nat) AV.junk) == intOf ((t1.getD t13.toNat []).getD (0 : Nat) AV.junk) && (intOf ((t0.getD t13.toNat []).getD ((0 : Nat) + (1 : Nat)) AV.junk) == intOf ((t1.getD t13.toNat []).getD ((0 : Nat) + (1 : Nat)) AV.junk) && true)) then some (Ex.ret, [AV.bool false], []) else some (Ex.norm, [AV.sl t0k [Kd.int IntKind.u16, Kd.int IntKind.u32] t0, AV.sl t1k [Kd.int IntKind.u16, Kd.int IntKind.u32] t1, AV.int IntKind.i64 t12, AV.int IntKind.i64 (IntKind.i64.wrap (t13 + (1 : Int)))], []) else none else none else some (Ex.exit (nat_lit 0), [AV.junk], []) := by kernel_rfl
  rw [h]
  clear h
  unfold go39_4 nx39_4_5 xc39_4_0 xc39_4_1
  generalize (!(intOf ((t0.getD t13.toNat []).getD (0 : Nat) AV.junk) == intOf ((t1.getD t13.toNat []).getD (0 : Nat) AV.junk) && (intOf ((t0.getD t13.toNat []).getD ((0 : Nat) + (1 : Nat)) AV.junk) == intOf ((t1.getD t13.toNat []).getD ((0 : Nat) + (1 : Nat)) AV.junk) && true))) = c0
  generalize (decide ((0 : Int) ≤ t13) && decide (t13 < (↑t0.length : Int))) = c1
  generalize (decide ((0 : Int) ≤ t13) && decide (t13 < (↑t1.length : Int))) = c2
  generalize (decide (t13 < t12)) = c3
  cases c3
  · skip
    rfl
  · skip
    cases c1
    · skip
      rfl
    · skip
      cases c2
      · skip
        rfl
      · skip
        cases c0
        · skip
          rfl
        · skip
          rfl
abbrev pl39_4 : Type := Tk × (List (List AV)) × Tk × (List (List AV)) × Int
abbrev sl39_4 : Type := Int
noncomputable def vt39_4 (a : pl39_4 × sl39_4) : List AV := [AV.sl a.1.1 [Kd.int IntKind.u16, Kd.int IntKind.u32] a.1.2.1, AV.sl a.1.2.2.1 [Kd.int IntKind.u16, Kd.int IntKind.u32] a.1.2.2.2.1, AV.int IntKind.i64 a.1.2.2.2.2, AV.int IntKind.i64 a.2]
noncomputable def vc39_4 (a : pl39_4 × sl39_4) : List Blk := []
noncomputable def de39_4 (vt : List AV) (vc : List Blk) : Option (pl39_4 × sl39_4) :=
  match vt with
  | [qa0, qa1, qa2, qa3] => (match vc with
  | [] => (match qa0 with
  | AV.sl t0k [Kd.int IntKind.u16, Kd.int IntKind.u32] t0 => (match qa1 with
  | AV.sl t1k [Kd.int IntKind.u16, Kd.int IntKind.u32] t1 => (match qa2 with
  | AV.int IntKind.i64 t12 => (match qa3 with
  | AV.int IntKind.i64 t13 => (some ((t0k, t0, t1k, t1, t12), t13))
  | _ => none)
  | _ => none)
  | _ => none)
  | _ => none)
  | _ => none)
  | _ => none
theorem de39_4_ok (vt : List AV) (vc : List Blk) (a : pl39_4 × sl39_4) (h : de39_4 vt vc = some a) : vt = vt39_4 a ∧ vc = vc39_4 a := by
  unfold de39_4 at h
  split at h
  rotate_left
  · cases h
  split at h
  rotate_left
  · cases h
  split at h
  rotate_left
  · cases h
  split at h
  rotate_left
  · cases h
  split at h
  rotate_left
  · cases h
  split at h
  rotate_left
  · cases h
  injection h with h
  subst h
  exact ⟨rfl, rfl⟩
noncomputable def g39_4 (p : pl39_4) (s : sl39_4) : Bool := go39_4 p.1 p.2.1 p.2.2.1 p.2.2.2.1 p.2.2.2.2 s
noncomputable def n39_4 (p : pl39_4) (s : sl39_4) : sl39_4 := nx39_4_5 p.1 p.2.1 p.2.2.1 p.2.2.2.1 p.2.2.2.2 s
noncomputable def y39_4 (p : pl39_4) (s : sl39_4) : List (Bool × Out) := [(xc39_4_0 p.1 p.2.1 p.2.2.1 p.2.2.2.1 p.2.2.2.2 s, (Ex.ret, [AV.bool false], []))]
noncomputable def z39_4 (p : pl39_4) (s : sl39_4) : Bool := xc39_4_1 p.1 p.2.1 p.2.2.1 p.2.2.2.1 p.2.2.2.2 s
noncomputable def d39_4 (p : pl39_4) (s : sl39_4) : Out := (Ex.exit (nat_lit 0), [AV.junk], [])
noncomputable def ls39_4 : St → Option (Bool × List (Bool × Ex × St) × Ex × St) := lspOf [0, 1, 12, 13] [] [4] [] Try.f39.ntmps (0 + tab.nid 39) de39_4 (spI g39_4 n39_4 y39_4 z39_4 d39_4)
theorem lo39_4 (rest : Lsp) : LoopOK1 (cfg Try.prog tab 100000 (gk k18 30) (selL 4 ls39_4 rest) 39 0 Try.f39.ntmps) (loopAt Try.f39 4) := LoopOK1.iter (i := 4) (by kernel_rfl) [0, 1, 12, 13] [] [4] [] vt39_4 vc39_4 de39_4 g39_4 n39_4 y39_4 z39_4 d39_4 (fun _ => rfl) de39_4_ok (fun p s => rd39_4 (selL 4 ls39_4 rest) (p.1) (p.2.1) (p.2.2.1) (p.2.2.2.1) (p.2.2.2.2) s) (fun _ _ => rfl)
noncomputable def lsp39 : Lsp := (selL 4 ls39_4 noLsp)
theorem loops39 : ∀ c, Try.f39.body = some c → LoopsOK (cfg Try.prog tab 100000 (gk k18 30) lsp39 39 0 Try.f39.ntmps) c := loops_of [4] (by kernel_rfl) (by kernel_rfl) (fun i hi => by
  simp only [List.mem_cons, List.not_mem_nil, or_false] at hi
  subst hi
  · exact lo39_4 noLsp)
noncomputable def rev39_0 (tk : Tk) (es : List (List AV)) (tk2 : Tk) (es2 : List (List AV)) : sl39_4 := finL (g39_4 (tk, es, tk2, es2, (↑es.length : Int))) (n39_4 (tk, es, tk2, es2, (↑es.length : Int))) (0 : Int)
noncomputable def vev39_0 (tk : Tk) (es : List (List AV)) (tk2 : Tk) (es2 : List (List AV)) : Bool := bif (↑es.length : Int) != (↑es2.length : Int) then false else bif xc39_4_0 tk es tk2 es2 (↑es.length : Int) (rev39_0 tk es tk2 es2) then false else true
noncomputable def vev39_1 (tk : Tk) (es : List (List AV)) (tk2 : Tk) (es2 : List (List AV)) : Bool := bif (↑es.length : Int) != (↑es2.length : Int) then true else bif (spI g39_4 n39_4 y39_4 z39_4 d39_4 ((tk, es, tk2, es2, (↑es.length : Int)), (0 : Int))).fst then true else false
theorem ev39 (tk : Tk) (es : List (List AV)) (tk2 : Tk) (es2 : List (List AV)) : evFin (cfg Try.prog tab 100000 (gk k18 30) lsp39 39 ([] : List Blk).length Try.f39.ntmps) ([] : List Blk).length Try.f39.resultTypes.toList Try.f39 [.sl tk [.int .u16, .int .u32] es, .sl tk2 [.int .u16, .int .u32] es2] [] = bif vev39_1 tk es tk2 es2 then some (true, AV.bool (vev39_0 tk es tk2 es2), []) else none := by
  have h : evFin (cfg Try.prog tab 100000 (gk k18 30) lsp39 39 ([] : List Blk).length Try.f39.ntmps) ([] : List Blk).length Try.f39.resultTypes.toList Try.f39 [.sl tk [.int .u16, .int .u32] es, .sl tk2 [.int .u16, .int .u32] es2] [] = bif (↑es.length : Int) != (↑es2.length : Int) then some (true, AV.bool false, []) else bif (spI g39_4 n39_4 y39_4 z39_4 d39_4 ((tk, es, tk2, es2, (↑es.length : Int)), (0 : Int))).fst then bif xc39_4_0 tk es tk2 es2 (↑es.length : Int) (rev39_0 tk es tk2 es2) then some (true, AV.bool false, []) else some (true, AV.bool true, []) else none := by kernel_rfl
  rw [h]
  clear h
  unfold vev39_0 vev39_1
  generalize ((spI g39_4 n39_4 y39_4 z39_4 d39_4 ((tk, es, tk2, es2, (↑es.length : Int)), (0 : Int))).fst) = c0
  generalize ((↑es.length : Int) != (↑es2.length : Int)) = c1
  generalize (xc39_4_0 tk es tk2 es2 (↑es.length : Int) (rev39_0 tk es tk2 es2)) = c2
  cases c1
  · skip
    cases c0
    · skip
      rfl
    · skip
      cases c2
      · skip
        rfl
      · skip
        rfl
  · skip
    rfl
-- spec vev39_1 tk es tk2 es2 ;; (true, AV.bool (vev39_0 tk es tk2 es2), [])
noncomputable def sp39 : List AV → List Blk → Option (Bool × AV × List Blk)
  | [.sl tk [.int .u16, .int .u32] es, .sl tk2 [.int .u16, .int .u32] es2], [] => spW (vev39_1 tk es tk2 es2) (some ((true, AV.bool (vev39_0 tk es tk2 es2), [])))
  | _, _ => none
noncomputable def k39 : Gam := fun f T C => match Nat.beq f 39 with
  | true => (sp39 T C).or (k18 f T C)
  | false => k18 f T C
theorem k39_ok : GamOK Try.prog k39 := by
  intro f T C r outs h
  unfold k39 at h
  cases hf : Nat.beq f 39 with
  | false => rw [hf] at h; exact k18_ok f T C r outs h
  | true =>
    have hf' := Nat.eq_of_beq_eq_true hf
    subst hf'
    rw [hf] at h
    dsimp only at h
    cases hs : sp39 T C with
    | none => rw [hs] at h; exact k18_ok _ T C r outs h
    | some x =>
      rw [hs] at h
      have hx : x = (true, r, outs) := by simpa using h
      subst hx
      unfold sp39 at hs
      split at hs
      · rename_i tk es tk2 es2
        obtain ⟨hb, rfl, rfl⟩ := spT_inv hs
        have he := ev39 tk es tk2 es2
        rw [hb, cond_true] at he
        obtain ⟨r0, o0, h0, he⟩ := evFin_inv he
        obtain ⟨h1, h2⟩ := fn_ok mixed plain (gk_ok k18_ok 30) Try.func39 loops39 h0
        exact ⟨h1, h2.fin he⟩
      · cases hs
noncomputable def go16_4 (t0k : Tk) (t0 : List (List AV)) (t1k : Tk) (t1 : List (List AV)) (t5 : Int) : Bool := bif decide (t5 < (↑t0.length : Int)) then bif decide ((0 : Int) ≤ t5) && decide (t5 < (↑t0.length : Int)) then bif decide ((0 : Int) ≤ t5) && decide (t5 < (↑t1.length : Int)) then bif !(intOf ((t0.getD t5.toNat []).getD (0 : Nat) AV.junk) == intOf ((t1.getD t5.toNat []).getD (0 : Nat) AV.junk) && (intOf ((t0.getD t5.toNat []).getD ((0 : Nat) + (1 : Nat)) AV.junk) == intOf ((t1.getD t5.toNat []).getD ((0 : Nat) + (1 : Nat)) AV.junk) && true)) then false else true else false else false else false
noncomputable def nx16_4_4 (t0k : Tk) (t0 : List (List AV)) (t1k : Tk) (t1 : List (List AV)) (t5 : Int) : Int := IntKind.i64.wrap (t5 + (1 : Int))
noncomputable def xc16_4_0 (t0k : Tk) (t0 : List (List AV)) (t1k : Tk) (t1 : List (List AV)) (t5 : Int) : Bool := bif decide (t5 < (↑t0.length : Int)) then bif decide ((0 : Int) ≤ t5) && decide (t5 < (↑t0.length : Int)) then bif decide ((0 : Int) ≤ t5) && decide (t5 < (↑t1.length : Int)) then !(intOf ((t0.getD t5.toNat []).getD (0 : Nat) AV.junk) == intOf ((t1.getD t5.toNat []).getD (0 : Nat) AV.junk) && (intOf ((t0.getD t5.toNat []).getD ((0 : Nat) + (1 : Nat)) AV.junk) == intOf ((t1.getD t5.toNat []).getD ((0 : Nat) + (1 : Nat)) AV.junk) && true)) else false else false else false
noncomputable def xc16_4_1 (t0k : Tk) (t0 : List (List AV)) (t1k : Tk) (t1 : List (List AV)) (t5 : Int) : Bool := bif decide (t5 < (↑t0.length : Int)) then false else true
theorem rd16_4 (rest : Lsp) (t0k : Tk) (t0 : List (List AV)) (t1k : Tk) (t1 : List (List AV)) (t5 : Int) : roundV (cfg Try.prog tab 100000 (gk k39 30) rest 16 0 Try.f16.ntmps) (loopAt Try.f16 4) [0, 1, 5] [] [4] [] [AV.sl t0k [Kd.int IntKind.u16, Kd.int IntKind.u32] t0, AV.sl t1k [Kd.int IntKind.u16, Kd.int IntKind.u32] t1, AV.int IntKind.i64 t5] [] = bif go16_4 t0k t0 t1k t1 t5 then some (Ex.norm, [AV.sl t0k [Kd.int IntKind.u16, Kd.int IntKind.u32] t0, AV.sl t1k [Kd.int IntKind.u16, Kd.int IntKind.u32] t1, AV.int IntKind.i64 (nx16_4_4 t0k t0 t1k t1 t5)], []) else bif xc16_4_0 t0k t0 t1k t1 t5 then some (Ex.ret, [AV.bool false], []) else bif xc16_4_1 t0k t0 t1k t1 t5 then some (Ex.exit (nat_lit 0), [AV.junk], []) else none := by
  have h : roundV (cfg Try.prog tab 100000 (gk k39 30) rest 16 0 Try.f16.ntmps) (loopAt Try.f16 4) [0, 1, 5] [] [4] [] [AV.sl t0k [Kd.int IntKind.u16, Kd.int IntKind.u32] t0, AV.sl t1k [Kd.int IntKind.u16, Kd.int IntKind.u32] t1, AV.int IntKind.i64 t5] [] = bif decide (t5 < (↑t0.length : Int)) then bif decide ((0 : Int) ≤ t5) && decide (t5 < (↑t0.length : Int)) then bif decide ((0 : Int) ≤ t5) && decide (t5 < (↑t1.length : Int)) then bif !(intOf ((t0.getD t5.toNat []).getD (0 : Nat) AV.junk) == intOf ((t1.getD t5.toNat []).getD (0 : Nat) AV.junk) && (intOf ((t0.getD t5.toNat []).getD ((0 : Nat) + (1 : Nat)) AV.junk) == intOf ((t1.getD t5.toNat []).getD ((0 : Nat) + (1 : Nat)) AV.junk) && true)) then some (Ex.ret, [AV.bool false], []) else some (Ex.norm, [AV.sl t0k [Kd.int IntKind.u16, Kd.int IntKind.u32] t0, AV.sl t1k [Kd.int IntKind.u16, Kd.int IntKind.u32] t1, AV.int IntKind.i64 (IntKind.i64.wrap (t5 + (1 : Int)))], []) else none else none else some (Ex.exit (nat_lit 0), [AV.junk], []) := by kernel_rfl
  rw [h]
  clear h
  unfold go16_4 nx16_4_4 xc16_4_0 xc16_4_1
  generalize (!(intOf ((t0.getD t5.toNat []).getD (0 : Nat) AV.junk) == intOf ((t1.getD t5.toNat []).getD (0 : Nat) AV.junk) && (intOf ((t0.getD t5.toNat []).getD ((0 : Nat) + (1 : Nat)) AV.junk) == intOf ((t1.getD t5.toNat []).getD ((0 : Nat) + (1 : Nat)) AV.junk) && true))) = c0
  generalize (decide ((0 : Int) ≤ t5) && decide (t5 < (↑t0.length : Int))) = c1
  generalize (decide ((0 : Int) ≤ t5) && decide (t5 < (↑t1.length : Int))) = c2
  generalize (decide (t5 < (↑t0.length : Int))) = c3
  cases c3
  · skip
    rfl
  · skip
    cases c1
    · skip
      rfl
    · skip
      cases c2
      · skip
        rfl
      · skip
        cases c0
        · skip
          rfl
        · skip
          rfl
abbrev pl16_4 : Type := Tk × (List (List AV)) × Tk × (List (List AV))
abbrev sl16_4 : Type := Int
noncomputable def vt16_4 (a : pl16_4 × sl16_4) : List AV := [AV.sl a.1.1 [Kd.int IntKind.u16, Kd.int IntKind.u32] a.1.2.1, AV.sl a.1.2.2.1 [Kd.int IntKind.u16, Kd.int IntKind.u32] a.1.2.2.2, AV.int IntKind.i64 a.2]
noncomputable def vc16_4 (a : pl16_4 × sl16_4) : List Blk := []
noncomputable def de16_4 (vt : List AV) (vc : List Blk) : Option (pl16_4 × sl16_4) :=
  match vt with
  | [qa0, qa1, qa2] => (match vc with
  | [] => (match qa0 with
  | AV.sl t0k [Kd.int IntKind.u16, Kd.int IntKind.u32] t0 => (match qa1 with
  | AV.sl t1k [Kd.int IntKind.u16, Kd.int IntKind.u32] t1 => (match qa2 with
  | AV.int IntKind.i64 t5 => (some ((t0k, t0, t1k, t1), t5))
  | _ => none)
  | _ => none)
  | _ => none)
  | _ => none)
  | _ => none
theorem de16_4_ok (vt : List AV) (vc : List Blk) (a : pl16_4 × sl16_4) (h : de16_4 vt vc = some a) : vt = vt16_4 a ∧ vc = vc16_4 a := by
  unfold de16_4 at h
  split at h
  rotate_left
  · cases h
  split at h
  rotate_left
  · cases h
  split at h
  rotate_left
  · cases h
  split at h
  rotate_left
  · cases h
  split at h
  rotate_left
  · cases h
  injection h with h
  subst h
  exact ⟨rfl, rfl⟩
noncomputable def g16_4 (p : pl16_4) (s : sl16_4) : Bool := go16_4 p.1 p.2.1 p.2.2.1 p.2.2.2 s
noncomputable def n16_4 (p : pl16_4) (s : sl16_4) : sl16_4 := nx16_4_4 p.1 p.2.1 p.2.2.1 p.2.2.2 s
noncomputable def y16_4 (p : pl16_4) (s : sl16_4) : List (Bool × Out) := [(xc16_4_0 p.1 p.2.1 p.2.2.1 p.2.2.2 s, (Ex.ret, [AV.bool false], []))]
noncomputable def z16_4 (p : pl16_4) (s : sl16_4) : Bool := xc16_4_1 p.1 p.2.1 p.2.2.1 p.2.2.2 s
noncomputable def d16_4 (p : pl16_4) (s : sl16_4) : Out := (Ex.exit (nat_lit 0), [AV.junk], [])
noncomputable def ls16_4 : St → Option (Bool × List (Bool × Ex × St) × Ex × St) := lspOf [0, 1, 5] [] [4] [] Try.f16.ntmps (0 + tab.nid 16) de16_4 (spI g16_4 n16_4 y16_4 z16_4 d16_4)
theorem lo16_4 (rest : Lsp) : LoopOK1 (cfg Try.prog tab 100000 (gk k39 30) (selL 4 ls16_4 rest) 16 0 Try.f16.ntmps) (loopAt Try.f16 4) := LoopOK1.iter (i := 4) (by kernel_rfl) [0, 1, 5] [] [4] [] vt16_4 vc16_4 de16_4 g16_4 n16_4 y16_4 z16_4 d16_4 (fun _ => rfl) de16_4_ok (fun p s => rd16_4 (selL 4 ls16_4 rest) (p.1) (p.2.1) (p.2.2.1) (p.2.2.2) s) (fun _ _ => rfl)
noncomputable def lsp16 : Lsp := (selL 4 ls16_4 noLsp)
theorem loops16 : ∀ c, Try.f16.body = some c → LoopsOK (cfg Try.prog tab 100000 (gk k39 30) lsp16 16 0 Try.f16.ntmps) c := loops_of [4] (by kernel_rfl) (by kernel_rfl) (fun i hi => by
  simp only [List.mem_cons, List.not_mem_nil, or_false] at hi
  subst hi
  · exact lo16_4 noLsp)
noncomputable def rev16_0 (tk : Tk) (es : List (List AV)) (tk2 : Tk) (es2 : List (List AV)) : sl16_4 := finL (g16_4 (tk, es, tk2, es2)) (n16_4 (tk, es, tk2, es2)) (0 : Int)
noncomputable def vev16_0 (tk : Tk) (es : List (List AV)) (tk2 : Tk) (es2 : List (List AV)) : Bool := bif (↑es.length : Int) != (↑es2.length : Int) then false else bif xc16_4_0 tk es tk2 es2 (rev16_0 tk es tk2 es2) then false else true
noncomputable def vev16_1 (tk : Tk) (es : List (List AV)) (tk2 : Tk) (es2 : List (List AV)) : Bool := bif (↑es.length : Int) != (↑es2.length : Int) then true else bif (spI g16_4 n16_4 y16_4 z16_4 d16_4 ((tk, es, tk2, es2), (0 : Int))).fst then true else false
theorem ev16 (tk : Tk) (es : List (List AV)) (tk2 : Tk) (es2 : List (List AV)) : evFin (cfg Try.prog tab 100000 (gk k39 30) lsp16 16 ([] : List Blk).length Try.f16.ntmps) ([] : List Blk).length Try.f16.resultTypes.toList Try.f16 [.sl tk [.int .u16, .int .u32] es, .sl tk2 [.int .u16, .int .u32] es2] [] = bif vev16_1 tk es tk2 es2 then some (true, AV.bool (vev16_0 tk es tk2 es2), []) else none := by
  have h : evFin (cfg Try.prog tab 100000 (gk k39 30) lsp16 16 ([] : List Blk).length Try.f16.ntmps) ([] : List Blk).length Try.f16.resultTypes.toList Try.f16 [.sl tk [.int .u16, .int .u32] es, .sl tk2 [.int .u16, .int .u32] es2] [] = bif (↑es.length : Int) != (↑es2.length : Int) then some (true, AV.bool false, []) else bif (spI g16_4 n16_4 y16_4 z16_4 d16_4 ((tk, es, tk2, es2), (0 : Int))).fst then bif xc16_4_0 tk es tk2 es2 (rev16_0 tk es tk2 es2) then some (true, AV.bool false, []) else some (true, AV.bool true, []) else none := by kernel_rfl
  rw [h]
  clear h
  unfold vev16_0 vev16_1
  generalize ((spI g16_4 n16_4 y16_4 z16_4 d16_4 ((tk, es, tk2, es2), (0 : Int))).fst) = c0
  generalize ((↑es.length : Int) != (↑es2.length : Int)) = c1
  generalize (xc16_4_0 tk es tk2 es2 (rev16_0 tk es tk2 es2)) = c2
  cases c1
  · skip
    cases c0
    · skip
      rfl
    · skip
      cases c2
      · skip
        rfl
      · skip
        rfl
  · skip
    rfl
-- spec vev16_1 tk es tk2 es2 ;; (true, AV.bool (vev16_0 tk es tk2 es2), [])
noncomputable def sp16 : List AV → List Blk → Option (Bool × AV × List Blk)
  | [.sl tk [.int .u16, .int .u32] es, .sl tk2 [.int .u16, .int .u32] es2], [] => spW (vev16_1 tk es tk2 es2) (some ((true, AV.bool (vev16_0 tk es tk2 es2), [])))
  | _, _ => none
noncomputable def k16 : Gam := fun f T C => match Nat.beq f 16 with
  | true => (sp16 T C).or (k39 f T C)
  | false => k39 f T C
theorem k16_ok : GamOK Try.prog k16 := by
  intro f T C r outs h
  unfold k16 at h
  cases hf : Nat.beq f 16 with
  | false => rw [hf] at h; exact k39_ok f T C r outs h
  | true =>
    have hf' := Nat.eq_of_beq_eq_true hf
    subst hf'
    rw [hf] at h
    dsimp only at h
    cases hs : sp16 T C with
    | none => rw [hs] at h; exact k39_ok _ T C r outs h
    | some x =>
      rw [hs] at h
      have hx : x = (true, r, outs) := by simpa using h
      subst hx
      unfold sp16 at hs
      split at hs
      · rename_i tk es tk2 es2
        obtain ⟨hb, rfl, rfl⟩ := spT_inv hs
        have he := ev16 tk es tk2 es2
        rw [hb, cond_true] at he
        obtain ⟨r0, o0, h0, he⟩ := evFin_inv he
        obtain ⟨h1, h2⟩ := fn_ok mixed plain (gk_ok k39_ok 30) Try.func16 loops16 h0
        exact ⟨h1, h2.fin he⟩
      · cases hs
noncomputable def vev38_0 (ps : List (List AV)) (a : Int) (ps2 : List (List AV)) (b : Int) : Bool := bif a == b then bif vev39_1 Tk.imm ps Tk.imm ps2 then bif true then vev39_0 Tk.imm ps Tk.imm ps2 else false else false else false
noncomputable def vev38_1 (ps : List (List AV)) (a : Int) (ps2 : List (List AV)) (b : Int) : Bool := bif bif a == b then vev39_1 Tk.imm ps Tk.imm ps2 else true then true else false
theorem ev38 (ps : List (List AV)) (a : Int) (ps2 : List (List AV)) (b : Int) : evFin (cfg Try.prog tab 100000 (gk k16 30) noLsp 38 ([] : List Blk).length Try.f38.ntmps) ([] : List Blk).length Try.f38.resultTypes.toList Try.f38 [.agg [.sl .imm [.int .u16, .int .u32] ps, .int .i64 a], .agg [.sl .imm [.int .u16, .int .u32] ps2, .int .i64 b]] [] = bif vev38_1 ps a ps2 b then some (true, AV.bool (vev38_0 ps a ps2 b), []) else none := by
  have h : evFin (cfg Try.prog tab 100000 (gk k16 30) noLsp 38 ([] : List Blk).length Try.f38.ntmps) ([] : List Blk).length Try.f38.resultTypes.toList Try.f38 [.agg [.sl .imm [.int .u16, .int .u32] ps, .int .i64 a], .agg [.sl .imm [.int .u16, .int .u32] ps2, .int .i64 b]] [] = bif bif a == b then bif vev39_1 Tk.imm ps Tk.imm ps2 then true else false else true then some (true, AV.bool (bif a == b then bif vev39_1 Tk.imm ps Tk.imm ps2 then bif true then vev39_0 Tk.imm ps Tk.imm ps2 else false else false else false), []) else none := by kernel_rfl
  rw [h]
  clear h
  unfold vev38_0 vev38_1
  generalize (a == b) = c0
  generalize (vev39_1 Tk.imm ps Tk.imm ps2) = c1
  cases c0
  · skip
    rfl
  · skip
    cases c1
    · skip
      rfl
    · skip
      rfl
-- spec vev38_1 ps a ps2 b ;; (true, AV.bool (vev38_0 ps a ps2 b), [])
noncomputable def sp38 : List AV → List Blk → Option (Bool × AV × List Blk)
  | [.agg [.sl .imm [.int .u16, .int .u32] ps, .int .i64 a], .agg [.sl .imm [.int .u16, .int .u32] ps2, .int .i64 b]], [] => spW (vev38_1 ps a ps2 b) (some ((true, AV.bool (vev38_0 ps a ps2 b), [])))
  | _, _ => none
noncomputable def k38 : Gam := fun f T C => match Nat.beq f 38 with
  | true => (sp38 T C).or (k16 f T C)
  | false => k16 f T C
theorem k38_ok : GamOK Try.prog k38 := by
  intro f T C r outs h
  unfold k38 at h
  cases hf : Nat.beq f 38 with
  | false => rw [hf] at h; exact k16_ok f T C r outs h
  | true =>
    have hf' := Nat.eq_of_beq_eq_true hf
    subst hf'
    rw [hf] at h
    dsimp only at h
    cases hs : sp38 T C with
    | none => rw [hs] at h; exact k16_ok _ T C r outs h
    | some x =>
      rw [hs] at h
      have hx : x = (true, r, outs) := by simpa using h
      subst hx
      unfold sp38 at hs
      split at hs
      · rename_i ps a ps2 b
        obtain ⟨hb, rfl, rfl⟩ := spT_inv hs
        have he := ev38 ps a ps2 b
        rw [hb, cond_true] at he
        obtain ⟨r0, o0, h0, he⟩ := evFin_inv he
        obtain ⟨h1, h2⟩ := fn_ok mixed plain (gk_ok k16_ok 30) Try.func38 (fun c _ => LoopsOK.none (fun _ _ => rfl) c) h0
        exact ⟨h1, h2.fin he⟩
      · cases hs
noncomputable def rn37_4_0 (t1k : Tk) (t1 : List (List AV)) (t15k : Tk) (t15 : List (List AV)) (t16 : Int) (t17 : Int) : List (List AV) := elsO ((t15.getD t17.toNat []).getD (0 : Nat) AV.junk)
noncomputable def rn37_4_1 (t1k : Tk) (t1 : List (List AV)) (t15k : Tk) (t15 : List (List AV)) (t16 : Int) (t17 : Int) : Int := intOf ((t15.getD t17.toNat []).getD ((0 : Nat) + (1 : Nat)) AV.junk)
noncomputable def rn37_4_2 (t1k : Tk) (t1 : List (List AV)) (t15k : Tk) (t15 : List (List AV)) (t16 : Int) (t17 : Int) : List (List AV) := elsO ((t1.getD t17.toNat []).getD (0 : Nat) AV.junk)
noncomputable def rn37_4_3 (t1k : Tk) (t1 : List (List AV)) (t15k : Tk) (t15 : List (List AV)) (t16 : Int) (t17 : Int) : Int := intOf ((t1.getD t17.toNat []).getD ((0 : Nat) + (1 : Nat)) AV.junk)
noncomputable def go37_4 (t1k : Tk) (t1 : List (List AV)) (t15k : Tk) (t15 : List (List AV)) (t16 : Int) (t17 : Int) : Bool := bif decide (t17 < t16) then bif decide ((0 : Int) ≤ t17) && decide (t17 < (↑t15.length : Int)) then bif decide ((0 : Int) ≤ t17) && decide (t17 < (↑t1.length : Int)) then bif vev38_1 (rn37_4_0 t1k t1 t15k t15 t16 t17) (rn37_4_1 t1k t1 t15k t15 t16 t17) (rn37_4_2 t1k t1 t15k t15 t16 t17) (rn37_4_3 t1k t1 t15k t15 t16 t17) then bif !vev38_0 (rn37_4_0 t1k t1 t15k t15 t16 t17) (rn37_4_1 t1k t1 t15k t15 t16 t17) (rn37_4_2 t1k t1 t15k t15 t16 t17) (rn37_4_3 t1k t1 t15k t15 t16 t17) then false else true else false else false else false else false
noncomputable def nx37_4_5 (t1k : Tk) (t1 : List (List AV)) (t15k : Tk) (t15 : List (List AV)) (t16 : Int) (t17 : Int) : Int := IntKind.i64.wrap (t17 + (1 : Int))
noncomputable def xc37_4_0 (t1k : Tk) (t1 : List (List AV)) (t15k : Tk) (t15 : List (List AV)) (t16 : Int) (t17 : Int) : Bool := bif decide (t17 < t16) then bif decide ((0 : Int) ≤ t17) && decide (t17 < (↑t15.length : Int)) then bif decide ((0 : Int) ≤ t17) && decide (t17 < (↑t1.length : Int)) then bif vev38_1 (rn37_4_0 t1k t1 t15k t15 t16 t17) (rn37_4_1 t1k t1 t15k t15 t16 t17) (rn37_4_2 t1k t1 t15k t15 t16 t17) (rn37_4_3 t1k t1 t15k t15 t16 t17) then !vev38_0 (rn37_4_0 t1k t1 t15k t15 t16 t17) (rn37_4_1 t1k t1 t15k t15 t16 t17) (rn37_4_2 t1k t1 t15k t15 t16 t17) (rn37_4_3 t1k t1 t15k t15 t16 t17) else false else false else false else false
noncomputable def xc37_4_1 (t1k : Tk) (t1 : List (List AV)) (t15k : Tk) (t15 : List (List AV)) (t16 : Int) (t17 : Int) : Bool := bif decide (t17 < t16) then false else true
theorem rd37_4 (rest : Lsp) (t1k : Tk) (t1 : List (List AV)) (t15k : Tk) (t15 : List (List AV)) (t16 : Int) (t17 : Int) : roundV (cfg Try.prog tab 100000 (gk k38 30) rest 37 0 Try.f37.ntmps) (loopAt Try.f37 4) [1, 2, 15, 16, 17] [] [6] [] [AV.sl t1k [Kd.sl [Kd.int IntKind.u16, Kd.int IntKind.u32], Kd.int IntKind.i64] t1, AV.fn (nat_lit 38) [], AV.sl t15k [Kd.sl [Kd.int IntKind.u16, Kd.int IntKind.u32], Kd.int IntKind.i64] t15, AV.int IntKind.i64 t16, AV.int IntKind.i64 t17] [] = bif go37_4 t1k t1 t15k t15 t16 t17 then some (Ex.norm, [AV.sl t1k [Kd.sl [Kd.int IntKind.u16, Kd.int IntKind.u32], Kd.int IntKind.i64] t1, AV.fn (nat_lit 38) [], AV.sl t15k [Kd.sl [Kd.int IntKind.u16, Kd.int IntKind.u32], Kd.int IntKind.i64] t15, AV.int IntKind.i64 t16, AV.int IntKind.i64 (nx37_4_5 t1k t1 t15k t15 t16 t17)], []) else bif xc37_4_0 t1k t1 t15k t15 t16 t17 then some (Ex.ret, [AV.bool false], []) else bif xc37_4_1 t1k t1 t15k t15 t16 t17 then some (Ex.exit (nat_lit 0), [AV.junk], []) else none := by
  have h : roundV (cfg Try.prog tab 100000 (gk k38 30) rest 37 0 Try.f37.ntmps) (loopAt Try.f37 4) [1, 2, 15, 16, 17] [] [6] [] [AV.sl t1k [Kd.sl [Kd.int IntKind.u16, Kd.int IntKind.u32], Kd.int IntKind.i64] t1, AV.fn (nat_lit 38) [], AV.sl t15k [Kd.sl [Kd.int IntKind.u16, Kd.int IntKind.u32], Kd.int IntKind.i64] t15, AV.int IntKind.i64 t16, AV.int IntKind.i64 t17] [] = bif decide (t17 < t16) then bif decide ((0 : Int) ≤ t17) && decide (t17 < (↑t15.length : Int)) then bif decide ((0 : Int) ≤ t17) && decide (t17 < (↑t1.length : Int)) then bif vev38_1 (rn37_4_0 t1k t1 t15k t15 t16 t17) (rn37_4_1 t1k t1 t15k t15 t16 t17) (rn37_4_2 t1k t1 t15k t15 t16 t17) (rn37_4_3 t1k t1 t15k t15 t16 t17) then bif !vev38_0 (rn37_4_0 t1k t1 t15k t15 t16 t17) (rn37_4_1 t1k t1 t15k t15 t16 t17) (rn37_4_2 t1k t1 t15k t15 t16 t17) (rn37_4_3 t1k t1 t15k t15 t16 t17) then some (Ex.ret, [AV.bool false], []) else some (Ex.norm, [AV.sl t1k [Kd.sl [Kd.int IntKind.u16, Kd.int IntKind.u32], Kd.int IntKind.i64] t1, AV.fn (nat_lit 38) [], AV.sl t15k [Kd.sl [Kd.int IntKind.u16, Kd.int IntKind.u32], Kd.int IntKind.i64] t15, AV.int IntKind.i64 t16, AV.int IntKind.i64 (IntKind.i64.wrap (t17 + (1 : Int)))], []) else none else none else none else some (Ex.exit (nat_lit 0), [AV.junk], []) := by kernel_rfl
  rw [h]
  clear h
  unfold go37_4 nx37_4_5 xc37_4_0 xc37_4_1
  generalize (decide ((0 : Int) ≤ t17) && decide (t17 < (↑t15.length : Int))) = c0
  generalize (decide ((0 : Int) ≤ t17) && decide (t17 < (↑t1.length : Int))) = c1
  generalize (!vev38_0 (rn37_4_0 t1k t1 t15k t15 t16 t17) (rn37_4_1 t1k t1 t15k t15 t16 t17) (rn37_4_2 t1k t1 t15k t15 t16 t17) (rn37_4_3 t1k t1 t15k t15 t16 t17)) = c2
  generalize (vev38_1 (rn37_4_0 t1k t1 t15k t15 t16 t17) (rn37_4_1 t1k t1 t15k t15 t16 t17) (rn37_4_2 t1k t1 t15k t15 t16 t17) (rn37_4_3 t1k t1 t15k t15 t16 t17)) = c3
  generalize (decide (t17 < t16)) = c4
  cases c4
  · skip
    rfl
  · skip
    cases c0
    · skip
      rfl
    · skip
      cases c1
      · skip
        rfl
      · skip
        cases c3
        · skip
          rfl
        · skip
          cases c2
          · skip
            rfl
          · skip
            rfl
abbrev pl37_4 : Type := Tk × (List (List AV)) × Tk × (List (List AV)) × Int
abbrev sl37_4 : Type := Int
noncomputable def vt37_4 (a : pl37_4 × sl37_4) : List AV := [AV.sl a.1.1 [Kd.sl [Kd.int IntKind.u16, Kd.int IntKind.u32], Kd.int IntKind.i64] a.1.2.1, AV.fn (nat_lit 38) [], AV.sl a.1.2.2.1 [Kd.sl [Kd.int IntKind.u16, Kd.int IntKind.u32], Kd.int IntKind.i64] a.1.2.2.2.1, AV.int IntKind.i64 a.1.2.2.2.2, AV.int IntKind.i64 a.2]
noncomputable def vc37_4 (a : pl37_4 × sl37_4) : List Blk := []
noncomputable def de37_4 (vt : List AV) (vc : List Blk) : Option (pl37_4 × sl37_4) :=
  match vt with
  | [qa0, qa1, qa2, qa3, qa4] => (match vc with
  | [] => (match qa0 with
  | AV.sl t1k [Kd.sl [Kd.int IntKind.u16, Kd.int IntKind.u32], Kd.int IntKind.i64] t1 => (match qa1 with
  | AV.fn (38) [] => (match qa2 with
  | AV.sl t15k [Kd.sl [Kd.int IntKind.u16, Kd.int IntKind.u32], Kd.int IntKind.i64] t15 => (match qa3 with
  | AV.int IntKind.i64 t16 => (match qa4 with
  | AV.int IntKind.i64 t17 => (some ((t1k, t1, t15k, t15, t16), t17))
  | _ => none)
  | _ => none)
  | _ => none)
  | _ => none)
  | _ => none)
  | _ => none)
  | _ => none
theorem de37_4_ok (vt : List AV) (vc : List Blk) (a : pl37_4 × sl37_4) (h : de37_4 vt vc = some a) : vt = vt37_4 a ∧ vc = vc37_4 a := by
  unfold de37_4 at h
  split at h
  rotate_left
  · cases h
  split at h
  rotate_left
  · cases h
  split at h
  rotate_left
  · cases h
  split at h
  rotate_left
  · cases h
  split at h
  rotate_left
  · cases h
  split at h
  rotate_left
  · cases h
  split at h
  rotate_left
  · cases h
  injection h with h
  subst h
  exact ⟨rfl, rfl⟩
noncomputable def g37_4 (p : pl37_4) (s : sl37_4) : Bool := go37_4 p.1 p.2.1 p.2.2.1 p.2.2.2.1 p.2.2.2.2 s
noncomputable def n37_4 (p : pl37_4) (s : sl37_4) : sl37_4 := nx37_4_5 p.1 p.2.1 p.2.2.1 p.2.2.2.1 p.2.2.2.2 s
noncomputable def y37_4 (p : pl37_4) (s : sl37_4) : List (Bool × Out) := [(xc37_4_0 p.1 p.2.1 p.2.2.1 p.2.2.2.1 p.2.2.2.2 s, (Ex.ret, [AV.bool false], []))]
noncomputable def z37_4 (p : pl37_4) (s : sl37_4) : Bool := xc37_4_1 p.1 p.2.1 p.2.2.1 p.2.2.2.1 p.2.2.2.2 s
noncomputable def d37_4 (p : pl37_4) (s : sl37_4) : Out := (Ex.exit (nat_lit 0), [AV.junk], [])
noncomputable def ls37_4 : St → Option (Bool × List (Bool × Ex × St) × Ex × St) := lspOf [1, 2, 15, 16, 17] [] [6] [] Try.f37.ntmps (0 + tab.nid 37) de37_4 (spI g37_4 n37_4 y37_4 z37_4 d37_4)
theorem lo37_4 (rest : Lsp) : LoopOK1 (cfg Try.prog tab 100000 (gk k38 30) (selL 4 ls37_4 rest) 37 0 Try.f37.ntmps) (loopAt Try.f37 4) := LoopOK1.iter (i := 4) (by kernel_rfl) [1, 2, 15, 16, 17] [] [6] [] vt37_4 vc37_4 de37_4 g37_4 n37_4 y37_4 z37_4 d37_4 (fun _ => rfl) de37_4_ok (fun p s => rd37_4 (selL 4 ls37_4 rest) (p.1) (p.2.1) (p.2.2.1) (p.2.2.2.1) (p.2.2.2.2) s) (fun _ _ => rfl)
noncomputable def lsp37 : Lsp := (selL 4 ls37_4 noLsp)
theorem loops37 : ∀ c, Try.f37.body = some c → LoopsOK (cfg Try.prog tab 100000 (gk k38 30) lsp37 37 0 Try.f37.ntmps) c := loops_of [4] (by kernel_rfl) (by kernel_rfl) (fun i hi => by
  simp only [List.mem_cons, List.not_mem_nil, or_false] at hi
  subst hi
  · exact lo37_4 noLsp)
noncomputable def rev37_0 (tk : Tk) (es : List (List AV)) (tk2 : Tk) (es2 : List (List AV)) : sl37_4 := finL (g37_4 (tk2, es2, tk, es, (↑es.length : Int))) (n37_4 (tk2, es2, tk, es, (↑es.length : Int))) (0 : Int)
noncomputable def vev37_0 (tk : Tk) (es : List (List AV)) (tk2 : Tk) (es2 : List (List AV)) : Bool := bif (↑es.length : Int) != (↑es2.length : Int) then false else bif xc37_4_0 tk2 es2 tk es (↑es.length : Int) (rev37_0 tk es tk2 es2) then false else true
noncomputable def vev37_1 (tk : Tk) (es : List (List AV)) (tk2 : Tk) (es2 : List (List AV)) : Bool := bif (↑es.length : Int) != (↑es2.length : Int) then true else bif (spI g37_4 n37_4 y37_4 z37_4 d37_4 ((tk2, es2, tk, es, (↑es.length : Int)), (0 : Int))).fst then true else false
theorem ev37 (tk : Tk) (es : List (List AV)) (tk2 : Tk) (es2 : List (List AV)) : evFin (cfg Try.prog tab 100000 (gk k38 30) lsp37 37 ([] : List Blk).length Try.f37.ntmps) ([] : List Blk).length Try.f37.resultTypes.toList Try.f37 [.sl tk [.sl [.int .u16, .int .u32], .int .i64] es, .sl tk2 [.sl [.int .u16, .int .u32], .int .i64] es2, .fn 38 []] [] = bif vev37_1 tk es tk2 es2 then some (true, AV.bool (vev37_0 tk es tk2 es2), []) else none := by
  have h : evFin (cfg Try.prog tab 100000 (gk k38 30) lsp37 37 ([] : List Blk).length Try.f37.ntmps) ([] : List Blk).length Try.f37.resultTypes.toList Try.f37 [.sl tk [.sl [.int .u16, .int .u32], .int .i64] es, .sl tk2 [.sl [.int .u16, .int .u32], .int .i64] es2, .fn 38 []] [] = bif (↑es.length : Int) != (↑es2.length : Int) then some (true, AV.bool false, []) else bif (spI g37_4 n37_4 y37_4 z37_4 d37_4 ((tk2, es2, tk, es, (↑es.length : Int)), (0 : Int))).fst then bif xc37_4_0 tk2 es2 tk es (↑es.length : Int) (rev37_0 tk es tk2 es2) then some (true, AV.bool false, []) else some (true, AV.bool true, []) else none := by kernel_rfl
  rw [h]
  clear h
  unfold vev37_0 vev37_1
  generalize ((spI g37_4 n37_4 y37_4 z37_4 d37_4 ((tk2, es2, tk, es, (↑es.length : Int)), (0 : Int))).fst) = c0
  generalize ((↑es.length : Int) != (↑es2.length : Int)) = c1
  generalize (xc37_4_0 tk2 es2 tk es (↑es.length : Int) (rev37_0 tk es tk2 es2)) = c2
  cases c1
  · skip
    cases c0
    · skip
      rfl
    · skip
      cases c2
      · skip
        rfl
      · skip
        rfl
  · skip
    rfl
-- spec vev37_1 tk es tk2 es2 ;; (true, AV.bool (vev37_0 tk es tk2 es2), [])
noncomputable def sp37 : List AV → List Blk → Option (Bool × AV × List Blk)
  | [.sl tk [.sl [.int .u16, .int .u32], .int .i64] es, .sl tk2 [.sl [.int .u16, .int .u32], .int .i64] es2, .fn 38 []], [] => spW (vev37_1 tk es tk2 es2) (some ((true, AV.bool (vev37_0 tk es tk2 es2), [])))
  | _, _ => none
noncomputable def k37 : Gam := fun f T C => match Nat.beq f 37 with
  | true => (sp37 T C).or (k38 f T C)
  | false => k38 f T C
theorem k37_ok : GamOK Try.prog k37 := by
  intro f T C r outs h
  unfold k37 at h
  cases hf : Nat.beq f 37 with
  | false => rw [hf] at h; exact k38_ok f T C r outs h
  | true =>
    have hf' := Nat.eq_of_beq_eq_true hf
    subst hf'
    rw [hf] at h
    dsimp only at h
    cases hs : sp37 T C with
    | none => rw [hs] at h; exact k38_ok _ T C r outs h
    | some x =>
      rw [hs] at h
      have hx : x = (true, r, outs) := by simpa using h
      subst hx
      unfold sp37 at hs
      split at hs
      · rename_i tk es tk2 es2
        obtain ⟨hb, rfl, rfl⟩ := spT_inv hs
        have he := ev37 tk es tk2 es2
        rw [hb, cond_true] at he
        obtain ⟨r0, o0, h0, he⟩ := evFin_inv he
        obtain ⟨h1, h2⟩ := fn_ok mixed plain (gk_ok k38_ok 30) Try.func37 loops37 h0
        exact ⟨h1, h2.fin he⟩
      · cases hs
noncomputable def vev25_0 (tk : Tk) (es : List (List AV)) (tk2 : Tk) (es2 : List (List AV)) : Bool := bif vev37_1 tk es tk2 es2 then true else false
theorem ev25 (tk : Tk) (es : List (List AV)) (tk2 : Tk) (es2 : List (List AV)) : evFin (cfg Try.prog tab 100000 (gk k37 30) noLsp 25 ([] : List Blk).length Try.f25.ntmps) ([] : List Blk).length Try.f25.resultTypes.toList Try.f25 [.sl tk [.sl [.int .u16, .int .u32], .int .i64] es, .sl tk2 [.sl [.int .u16, .int .u32], .int .i64] es2] [] = bif vev25_0 tk es tk2 es2 then some (true, AV.bool (vev37_0 tk es tk2 es2), []) else none := by
  have h : evFin (cfg Try.prog tab 100000 (gk k37 30) noLsp 25 ([] : List Blk).length Try.f25.ntmps) ([] : List Blk).length Try.f25.resultTypes.toList Try.f25 [.sl tk [.sl [.int .u16, .int .u32], .int .i64] es, .sl tk2 [.sl [.int .u16, .int .u32], .int .i64] es2] [] = bif vev37_1 tk es tk2 es2 then some (true, AV.bool (vev37_0 tk es tk2 es2), []) else none := by kernel_rfl
  rw [h]
  clear h
  unfold vev25_0
  generalize (vev37_1 tk es tk2 es2) = c0
  cases c0
  · skip
    rfl
  · skip
    rfl
-- spec vev25_0 tk es tk2 es2 ;; (true, AV.bool (vev37_0 tk es tk2 es2), [])
noncomputable def sp25 : List AV → List Blk → Option (Bool × AV × List Blk)
  | [.sl tk [.sl [.int .u16, .int .u32], .int .i64] es, .sl tk2 [.sl [.int .u16, .int .u32], .int .i64] es2], [] => spW (vev25_0 tk es tk2 es2) (some ((true, AV.bool (vev37_0 tk es tk2 es2), [])))
  | _, _ => none
noncomputable def k25 : Gam := fun f T C => match Nat.beq f 25 with
  | true => (sp25 T C).or (k37 f T C)
  | false => k37 f T C
theorem k25_ok : GamOK Try.prog k25 := by
  intro f T C r outs h
  unfold k25 at h
  cases hf : Nat.beq f 25 with
  | false => rw [hf] at h; exact k37_ok f T C r outs h
  | true =>
    have hf' := Nat.eq_of_beq_eq_true hf
    subst hf'
    rw [hf] at h
    dsimp only at h
    cases hs : sp25 T C with
    | none => rw [hs] at h; exact k37_ok _ T C r outs h
    | some x =>
      rw [hs] at h
      have hx : x = (true, r, outs) := by simpa using h
      subst hx
      unfold sp25 at hs
      split at hs
      · rename_i tk es tk2 es2
        obtain ⟨hb, rfl, rfl⟩ := spT_inv hs
        have he := ev25 tk es tk2 es2
        rw [hb, cond_true] at he
        obtain ⟨r0, o0, h0, he⟩ := evFin_inv he
        obtain ⟨h1, h2⟩ := fn_ok mixed plain (gk_ok k37_ok 30) Try.func25 (fun c _ => LoopsOK.none (fun _ _ => rfl) c) h0
        exact ⟨h1, h2.fin he⟩
      · cases hs
noncomputable def rn14_4_0 (t0k : Tk) (t0 : List (List AV)) (t1k : Tk) (t1 : List (List AV)) (t5 : Int) : List (List AV) := elsO ((t0.getD t5.toNat []).getD (0 : Nat) AV.junk)
noncomputable def rn14_4_1 (t0k : Tk) (t0 : List (List AV)) (t1k : Tk) (t1 : List (List AV)) (t5 : Int) : List (List AV) := elsO ((t1.getD t5.toNat []).getD (0 : Nat) AV.junk)
noncomputable def go14_4 (t0k : Tk) (t0 : List (List AV)) (t1k : Tk) (t1 : List (List AV)) (t5 : Int) : Bool := bif decide (t5 < (↑t0.length : Int)) then bif bif decide ((0 : Int) ≤ t5) && decide (t5 < (↑t0.length : Int)) then bif decide ((0 : Int) ≤ t5) && decide (t5 < (↑t1.length : Int)) then bif intOf ((t0.getD t5.toNat []).getD ((0 : Nat) + (1 : Nat)) AV.junk) != intOf ((t1.getD t5.toNat []).getD ((0 : Nat) + (1 : Nat)) AV.junk) then true else bif decide ((0 : Int) ≤ t5) && decide (t5 < (↑t0.length : Int)) then bif decide ((0 : Int) ≤ t5) && decide (t5 < (↑t1.length : Int)) then vev16_1 Tk.imm (rn14_4_0 t0k t0 t1k t1 t5) Tk.imm (rn14_4_1 t0k t0 t1k t1 t5) else false else false else false else false then bif bif decide ((0 : Int) ≤ t5) && decide (t5 < (↑t0.length : Int)) then bif decide ((0 : Int) ≤ t5) && decide (t5 < (↑t1.length : Int)) then bif intOf ((t0.getD t5.toNat []).getD ((0 : Nat) + (1 : Nat)) AV.junk) != intOf ((t1.getD t5.toNat []).getD ((0 : Nat) + (1 : Nat)) AV.junk) then true else bif decide ((0 : Int) ≤ t5) && decide (t5 < (↑t0.length : Int)) then bif decide ((0 : Int) ≤ t5) && decide (t5 < (↑t1.length : Int)) then bif vev16_1 Tk.imm (rn14_4_0 t0k t0 t1k t1 t5) Tk.imm (rn14_4_1 t0k t0 t1k t1 t5) then !vev16_0 Tk.imm (rn14_4_0 t0k t0 t1k t1 t5) Tk.imm (rn14_4_1 t0k t0 t1k t1 t5) else false else false else false else false else false then false else true else false else false
noncomputable def nx14_4_4 (t0k : Tk) (t0 : List (List AV)) (t1k : Tk) (t1 : List (List AV)) (t5 : Int) : Int := IntKind.i64.wrap (t5 + (1 : Int))
noncomputable def xc14_4_0 (t0k : Tk) (t0 : List (List AV)) (t1k : Tk) (t1 : List (List AV)) (t5 : Int) : Bool := bif decide (t5 < (↑t0.length : Int)) then bif bif decide ((0 : Int) ≤ t5) && decide (t5 < (↑t0.length : Int)) then bif decide ((0 : Int) ≤ t5) && decide (t5 < (↑t1.length : Int)) then bif intOf ((t0.getD t5.toNat []).getD ((0 : Nat) + (1 : Nat)) AV.junk) != intOf ((t1.getD t5.toNat []).getD ((0 : Nat) + (1 : Nat)) AV.junk) then true else bif decide ((0 : Int) ≤ t5) && decide (t5 < (↑t0.length : Int)) then bif decide ((0 : Int) ≤ t5) && decide (t5 < (↑t1.length : Int)) then vev16_1 Tk.imm (rn14_4_0 t0k t0 t1k t1 t5) Tk.imm (rn14_4_1 t0k t0 t1k t1 t5) else false else false else false else false then bif decide ((0 : Int) ≤ t5) && decide (t5 < (↑t0.length : Int)) then bif decide ((0 : Int) ≤ t5) && decide (t5 < (↑t1.length : Int)) then bif intOf ((t0.getD t5.toNat []).getD ((0 : Nat) + (1 : Nat)) AV.junk) != intOf ((t1.getD t5.toNat []).getD ((0 : Nat) + (1 : Nat)) AV.junk) then true else bif decide ((0 : Int) ≤ t5) && decide (t5 < (↑t0.length : Int)) then bif decide ((0 : Int) ≤ t5) && decide (t5 < (↑t1.length : Int)) then bif vev16_1 Tk.imm (rn14_4_0 t0k t0 t1k t1 t5) Tk.imm (rn14_4_1 t0k t0 t1k t1 t5) then !vev16_0 Tk.imm (rn14_4_0 t0k t0 t1k t1 t5) Tk.imm (rn14_4_1 t0k t0 t1k t1 t5) else false else false else false else false else false else false else false
noncomputable def xc14_4_1 (t0k : Tk) (t0 : List (List AV)) (t1k : Tk) (t1 : List (List AV)) (t5 : Int) : Bool := bif decide (t5 < (↑t0.length : Int)) then false else true
theorem rd14_4 (rest : Lsp) (t0k : Tk) (t0 : List (List AV)) (t1k : Tk) (t1 : List (List AV)) (t5 : Int) : roundV (cfg Try.prog tab 100000 (gk k25 30) rest 14 0 Try.f14.ntmps) (loopAt Try.f14 4) [0, 1, 5] [] [4] [] [AV.sl t0k [Kd.sl [Kd.int IntKind.u16, Kd.int IntKind.u32], Kd.int IntKind.i64] t0, AV.sl t1k [Kd.sl [Kd.int IntKind.u16, Kd.int IntKind.u32], Kd.int IntKind.i64] t1, AV.int IntKind.i64 t5] [] = bif go14_4 t0k t0 t1k t1 t5 then some (Ex.norm, [AV.sl t0k [Kd.sl [Kd.int IntKind.u16, Kd.int IntKind.u32], Kd.int IntKind.i64] t0, AV.sl t1k [Kd.sl [Kd.int IntKind.u16, Kd.int IntKind.u32], Kd.int IntKind.i64] t1, AV.int IntKind.i64 (nx14_4_4 t0k t0 t1k t1 t5)], []) else bif xc14_4_0 t0k t0 t1k t1 t5 then some (Ex.ret, [AV.bool false], []) else bif xc14_4_1 t0k t0 t1k t1 t5 then some (Ex.exit (nat_lit 0), [AV.junk], []) else none := by
  have h : roundV (cfg Try.prog tab 100000 (gk k25 30) rest 14 0 Try.f14.ntmps) (loopAt Try.f14 4) [0, 1, 5] [] [4] [] [AV.sl t0k [Kd.sl [Kd.int IntKind.u16, Kd.int IntKind.u32], Kd.int IntKind.i64] t0, AV.sl t1k [Kd.sl [Kd.int IntKind.u16, Kd.int IntKind.u32], Kd.int IntKind.i64] t1, AV.int IntKind.i64 t5] [] = bif decide (t5 < (↑t0.length : Int)) then bif bif decide ((0 : Int) ≤ t5) && decide (t5 < (↑t0.length : Int)) then bif decide ((0 : Int) ≤ t5) && decide (t5 < (↑t1.length : Int)) then bif intOf ((t0.getD t5.toNat []).getD ((0 : Nat) + (1 : Nat)) AV.junk) != intOf ((t1.getD t5.toNat []).getD ((0 : Nat) + (1 : Nat)) AV.junk) then true else bif decide ((0 : Int) ≤ t5) && decide (t5 < (↑t0.length : Int)) then bif decide ((0 : Int) ≤ t5) && decide (t5 < (↑t1.length : Int)) then bif vev16_1 Tk.imm (rn14_4_0 t0k t0 t1k t1 t5) Tk.imm (rn14_4_1 t0k t0 t1k t1 t5) then true else false else false else false else false else false then bif bif decide ((0 : Int) ≤ t5) && decide (t5 < (↑t0.length : Int)) then bif decide ((0 : Int) ≤ t5) && decide (t5 < (↑t1.length : Int)) then bif intOf ((t0.getD t5.toNat []).getD ((0 : Nat) + (1 : Nat)) AV.junk) != intOf ((t1.getD t5.toNat []).getD ((0 : Nat) + (1 : Nat)) AV.junk) then true else bif decide ((0 : Int) ≤ t5) && decide (t5 < (↑t0.length : Int)) then bif decide ((0 : Int) ≤ t5) && decide (t5 < (↑t1.length : Int)) then bif vev16_1 Tk.imm (rn14_4_0 t0k t0 t1k t1 t5) Tk.imm (rn14_4_1 t0k t0 t1k t1 t5) then bif false then true else !vev16_0 Tk.imm (rn14_4_0 t0k t0 t1k t1 t5) Tk.imm (rn14_4_1 t0k t0 t1k t1 t5) else false else false else false else false else false then some (Ex.ret, [AV.bool false], []) else some (Ex.norm, [AV.sl t0k [Kd.sl [Kd.int IntKind.u16, Kd.int IntKind.u32], Kd.int IntKind.i64] t0, AV.sl t1k [Kd.sl [Kd.int IntKind.u16, Kd.int IntKind.u32], Kd.int IntKind.i64] t1, AV.int IntKind.i64 (IntKind.i64.wrap (t5 + (1 : Int)))], []) else none else some (Ex.exit (nat_lit 0), [AV.junk], []) := by kernel_rfl
  rw [h]
  clear h
  unfold go14_4 nx14_4_4 xc14_4_0 xc14_4_1
  generalize (intOf ((t0.getD t5.toNat []).getD ((0 : Nat) + (1 : Nat)) AV.junk) != intOf ((t1.getD t5.toNat []).getD ((0 : Nat) + (1 : Nat)) AV.junk)) = c0
  generalize (decide ((0 : Int) ≤ t5) && decide (t5 < (↑t0.length : Int))) = c1
  generalize (decide ((0 : Int) ≤ t5) && decide (t5 < (↑t1.length : Int))) = c2
  generalize (decide (t5 < (↑t0.length : Int))) = c3
  generalize (!vev16_0 Tk.imm (rn14_4_0 t0k t0 t1k t1 t5) Tk.imm (rn14_4_1 t0k t0 t1k t1 t5)) = c4
  generalize (vev16_1 Tk.imm (rn14_4_0 t0k t0 t1k t1 t5) Tk.imm (rn14_4_1 t0k t0 t1k t1 t5)) = c5
  cases c3
  · skip
    rfl
  · skip
    cases c1
    · skip
      rfl
    · skip
      cases c2
      · skip
        rfl
      · skip
        cases c0
        · skip
          cases c5
          · skip
            rfl
          · skip
            cases c4
            · skip
              rfl
            · skip
              rfl
        · skip
          rfl
abbrev pl14_4 : Type := Tk × (List (List AV)) × Tk × (List (List AV))
abbrev sl14_4 : Type := Int
noncomputable def vt14_4 (a : pl14_4 × sl14_4) : List AV := [AV.sl a.1.1 [Kd.sl [Kd.int IntKind.u16, Kd.int IntKind.u32], Kd.int IntKind.i64] a.1.2.1, AV.sl a.1.2.2.1 [Kd.sl [Kd.int IntKind.u16, Kd.int IntKind.u32], Kd.int IntKind.i64] a.1.2.2.2, AV.int IntKind.i64 a.2]
noncomputable def vc14_4 (a : pl14_4 × sl14_4) : List Blk := []
noncomputable def de14_4 (vt : List AV) (vc : List Blk) : Option (pl14_4 × sl14_4) :=
  match vt with
  | [qa0, qa1, qa2] => (match vc with
  | [] => (match qa0 with
  | AV.sl t0k [Kd.sl [Kd.int IntKind.u16, Kd.int IntKind.u32], Kd.int IntKind.i64] t0 => (match qa1 with
  | AV.sl t1k [Kd.sl [Kd.int IntKind.u16, Kd.int IntKind.u32], Kd.int IntKind.i64] t1 => (match qa2 with
  | AV.int IntKind.i64 t5 => (some ((t0k, t0, t1k, t1), t5))
  | _ => none)
  | _ => none)
  | _ => none)
  | _ => none)
  | _ => none
theorem de14_4_ok (vt : List AV) (vc : List Blk) (a : pl14_4 × sl14_4) (h : de14_4 vt vc = some a) : vt = vt14_4 a ∧ vc = vc14_4 a := by
  unfold de14_4 at h
  split at h
  rotate_left
  · cases h
  split at h
  rotate_left
  · cases h
  split at h
  rotate_left
  · cases h
  split at h
  rotate_left
  · cases h
  split at h
  rotate_left
  · cases h
  injection h with h
  subst h
  exact ⟨rfl, rfl⟩
noncomputable def g14_4 (p : pl14_4) (s : sl14_4) : Bool := go14_4 p.1 p.2.1 p.2.2.1 p.2.2.2 s
noncomputable def n14_4 (p : pl14_4) (s : sl14_4) : sl14_4 := nx14_4_4 p.1 p.2.1 p.2.2.1 p.2.2.2 s
noncomputable def y14_4 (p : pl14_4) (s : sl14_4) : List (Bool × Out) := [(xc14_4_0 p.1 p.2.1 p.2.2.1 p.2.2.2 s, (Ex.ret, [AV.bool false], []))]
noncomputable def z14_4 (p : pl14_4) (s : sl14_4) : Bool := xc14_4_1 p.1 p.2.1 p.2.2.1 p.2.2.2 s
noncomputable def d14_4 (p : pl14_4) (s : sl14_4) : Out := (Ex.exit (nat_lit 0), [AV.junk], [])
noncomputable def ls14_4 : St → Option (Bool × List (Bool × Ex × St) × Ex × St) := lspOf [0, 1, 5] [] [4] [] Try.f14.ntmps (0 + tab.nid 14) de14_4 (spI g14_4 n14_4 y14_4 z14_4 d14_4)
theorem lo14_4 (rest : Lsp) : LoopOK1 (cfg Try.prog tab 100000 (gk k25 30) (selL 4 ls14_4 rest) 14 0 Try.f14.ntmps) (loopAt Try.f14 4) := LoopOK1.iter (i := 4) (by kernel_rfl) [0, 1, 5] [] [4] [] vt14_4 vc14_4 de14_4 g14_4 n14_4 y14_4 z14_4 d14_4 (fun _ => rfl) de14_4_ok (fun p s => rd14_4 (selL 4 ls14_4 rest) (p.1) (p.2.1) (p.2.2.1) (p.2.2.2) s) (fun _ _ => rfl)
noncomputable def lsp14 : Lsp := (selL 4 ls14_4 noLsp)
theorem loops14 : ∀ c, Try.f14.body = some c → LoopsOK (cfg Try.prog tab 100000 (gk k25 30) lsp14 14 0 Try.f14.ntmps) c := loops_of [4] (by kernel_rfl) (by kernel_rfl) (fun i hi => by
  simp only [List.mem_cons, List.not_mem_nil, or_false] at hi
  subst hi
  · exact lo14_4 noLsp)
noncomputable def rev14_0 (tk : Tk) (es : List (List AV)) (tk2 : Tk) (es2 : List (List AV)) : sl14_4 := finL (g14_4 (tk, es, tk2, es2)) (n14_4 (tk, es, tk2, es2)) (0 : Int)
noncomputable def vev14_0 (tk : Tk) (es : List (List AV)) (tk2 : Tk) (es2 : List (List AV)) : Bool := bif (↑es.length : Int) != (↑es2.length : Int) then false else bif xc14_4_0 tk es tk2 es2 (rev14_0 tk es tk2 es2) then false else true
noncomputable def vev14_1 (tk : Tk) (es : List (List AV)) (tk2 : Tk) (es2 : List (List AV)) : Bool := bif (↑es.length : Int) != (↑es2.length : Int) then true else bif (spI g14_4 n14_4 y14_4 z14_4 d14_4 ((tk, es, tk2, es2), (0 : Int))).fst then true else false
theorem ev14 (tk : Tk) (es : List (List AV)) (tk2 : Tk) (es2 : List (List AV)) : evFin (cfg Try.prog tab 100000 (gk k25 30) lsp14 14 ([] : List Blk).length Try.f14.ntmps) ([] : List Blk).length Try.f14.resultTypes.toList Try.f14 [.sl tk [.sl [.int .u16, .int .u32], .int .i64] es, .sl tk2 [.sl [.int .u16, .int .u32], .int .i64] es2] [] = bif vev14_1 tk es tk2 es2 then some (true, AV.bool (vev14_0 tk es tk2 es2), []) else none := by
  have h : evFin (cfg Try.prog tab 100000 (gk k25 30) lsp14 14 ([] : List Blk).length Try.f14.ntmps) ([] : List Blk).length Try.f14.resultTypes.toList Try.f14 [.sl tk [.sl [.int .u16, .int .u32], .int .i64] es, .sl tk2 [.sl [.int .u16, .int .u32], .int .i64] es2] [] = bif (↑es.length : Int) != (↑es2.length : Int) then some (true, AV.bool false, []) else bif (spI g14_4 n14_4 y14_4 z14_4 d14_4 ((tk, es, tk2, es2), (0 : Int))).fst then bif xc14_4_0 tk es tk2 es2 (rev14_0 tk es tk2 es2) then some (true, AV.bool false, []) else some (true, AV.bool true, []) else none := by kernel_rfl
  rw [h]
  clear h
  unfold vev14_0 vev14_1
  generalize ((spI g14_4 n14_4 y14_4 z14_4 d14_4 ((tk, es, tk2, es2), (0 : Int))).fst) = c0
  generalize ((↑es.length : Int) != (↑es2.length : Int)) = c1
  generalize (xc14_4_0 tk es tk2 es2 (rev14_0 tk es tk2 es2)) = c2
  cases c1
  · skip
    cases c0
    · skip
      rfl
    · skip
      cases c2
      · skip
        rfl
      · skip
        rfl
  · skip
    rfl
-- spec vev14_1 tk es tk2 es2 ;; (true, AV.bool (vev14_0 tk es tk2 es2), [])
noncomputable def sp14 : List AV → List Blk → Option (Bool × AV × List Blk)
  | [.sl tk [.sl [.int .u16, .int .u32], .int .i64] es, .sl tk2 [.sl [.int .u16, .int .u32], .int .i64] es2], [] => spW (vev14_1 tk es tk2 es2) (some ((true, AV.bool (vev14_0 tk es tk2 es2), [])))
  | _, _ => none
noncomputable def k14 : Gam := fun f T C => match Nat.beq f 14 with
  | true => (sp14 T C).or (k25 f T C)
  | false => k25 f T C
theorem k14_ok : GamOK Try.prog k14 := by
  intro f T C r outs h
  unfold k14 at h
  cases hf : Nat.beq f 14 with
  | false => rw [hf] at h; exact k25_ok f T C r outs h
  | true =>
    have hf' := Nat.eq_of_beq_eq_true hf
    subst hf'
    rw [hf] at h
    dsimp only at h
    cases hs : sp14 T C with
    | none => rw [hs] at h; exact k25_ok _ T C r outs h
    | some x =>
      rw [hs] at h
      have hx : x = (true, r, outs) := by simpa using h
      subst hx
      unfold sp14 at hs
      split at hs
      · rename_i tk es tk2 es2
        obtain ⟨hb, rfl, rfl⟩ := spT_inv hs
        have he := ev14 tk es tk2 es2
        rw [hb, cond_true] at he
        obtain ⟨r0, o0, h0, he⟩ := evFin_inv he
        obtain ⟨h1, h2⟩ := fn_ok mixed plain (gk_ok k25_ok 30) Try.func14 loops14 h0
        exact ⟨h1, h2.fin he⟩
      · cases hs
noncomputable def rn7_4_0 (t0k : Tk) (t0 : List (List AV)) (t3 : Int) : Int := (↑(elsO ((t0.getD t3.toNat []).getD (0 : Nat) AV.junk)).length : Int)
noncomputable def go7_4 (t0k : Tk) (t0 : List (List AV)) (t3 : Int) : Bool := bif decide (t3 < (↑t0.length : Int)) then bif decide ((0 : Int) ≤ t3) && decide (t3 < (↑t0.length : Int)) then bif decide (rn7_4_0 t0k t0 t3 > (20 : Int)) then false else true else false else false
noncomputable def nx7_4_2 (t0k : Tk) (t0 : List (List AV)) (t3 : Int) : Int := IntKind.i64.wrap (t3 + (1 : Int))
noncomputable def xc7_4_0 (t0k : Tk) (t0 : List (List AV)) (t3 : Int) : Bool := bif decide (t3 < (↑t0.length : Int)) then bif decide ((0 : Int) ≤ t3) && decide (t3 < (↑t0.length : Int)) then decide (rn7_4_0 t0k t0 t3 > (20 : Int)) else false else false
noncomputable def xc7_4_1 (t0k : Tk) (t0 : List (List AV)) (t3 : Int) : Bool := bif decide (t3 < (↑t0.length : Int)) then false else true
theorem rd7_4 (rest : Lsp) (t0k : Tk) (t0 : List (List AV)) (t3 : Int) : roundV (cfg Try.prog tab 100000 (gk k14 30) rest 7 0 Try.f7.ntmps) (loopAt Try.f7 4) [0, 3] [] [2] [] [AV.sl t0k [Kd.sl [Kd.int IntKind.u16, Kd.int IntKind.u32], Kd.int IntKind.i64] t0, AV.int IntKind.i64 t3] [] = bif go7_4 t0k t0 t3 then some (Ex.norm, [AV.sl t0k [Kd.sl [Kd.int IntKind.u16, Kd.int IntKind.u32], Kd.int IntKind.i64] t0, AV.int IntKind.i64 (nx7_4_2 t0k t0 t3)], []) else bif xc7_4_0 t0k t0 t3 then some (Ex.ret, [AV.bool false], []) else bif xc7_4_1 t0k t0 t3 then some (Ex.exit (nat_lit 0), [AV.junk], []) else none := by
  have h : roundV (cfg Try.prog tab 100000 (gk k14 30) rest 7 0 Try.f7.ntmps) (loopAt Try.f7 4) [0, 3] [] [2] [] [AV.sl t0k [Kd.sl [Kd.int IntKind.u16, Kd.int IntKind.u32], Kd.int IntKind.i64] t0, AV.int IntKind.i64 t3] [] = bif decide (t3 < (↑t0.length : Int)) then bif decide ((0 : Int) ≤ t3) && decide (t3 < (↑t0.length : Int)) then bif decide (rn7_4_0 t0k t0 t3 > (20 : Int)) then some (Ex.ret, [AV.bool false], []) else some (Ex.norm, [AV.sl t0k [Kd.sl [Kd.int IntKind.u16, Kd.int IntKind.u32], Kd.int IntKind.i64] t0, AV.int IntKind.i64 (IntKind.i64.wrap (t3 + (1 : Int)))], []) else none else some (Ex.exit (nat_lit 0), [AV.junk], []) := by kernel_rfl
  rw [h]
  clear h
  unfold go7_4 nx7_4_2 xc7_4_0 xc7_4_1
  generalize (decide ((0 : Int) ≤ t3) && decide (t3 < (↑t0.length : Int))) = c0
  generalize (decide (rn7_4_0 t0k t0 t3 > (20 : Int))) = c1
  generalize (decide (t3 < (↑t0.length : Int))) = c2
  cases c2
  · skip
    rfl
  · skip
    cases c0
    · skip
      rfl
    · skip
      cases c1
      · skip
        rfl
      · skip
        rfl
abbrev pl7_4 : Type := Tk × (List (List AV))
abbrev sl7_4 : Type := Int
noncomputable def vt7_4 (a : pl7_4 × sl7_4) : List AV := [AV.sl a.1.1 [Kd.sl [Kd.int IntKind.u16, Kd.int IntKind.u32], Kd.int IntKind.i64] a.1.2, AV.int IntKind.i64 a.2]
noncomputable def vc7_4 (a : pl7_4 × sl7_4) : List Blk := []
noncomputable def de7_4 (vt : List AV) (vc : List Blk) : Option (pl7_4 × sl7_4) :=
  match vt with
  | [qa0, qa1] => (match vc with
  | [] => (match qa0 with
  | AV.sl t0k [Kd.sl [Kd.int IntKind.u16, Kd.int IntKind.u32], Kd.int IntKind.i64] t0 => (match qa1 with
  | AV.int IntKind.i64 t3 => (some ((t0k, t0), t3))
  | _ => none)
  | _ => none)
  | _ => none)
  | _ => none
theorem de7_4_ok (vt : List AV) (vc : List Blk) (a : pl7_4 × sl7_4) (h : de7_4 vt vc = some a) : vt = vt7_4 a ∧ vc = vc7_4 a := by
  unfold de7_4 at h
  split at h
  rotate_left
  · cases h
  split at h
  rotate_left
  · cases h
  split at h
  rotate_left
  · cases h
  split at h
  rotate_left
  · cases h
  injection h with h
  subst h
  exact ⟨rfl, rfl⟩
noncomputable def g7_4 (p : pl7_4) (s : sl7_4) : Bool := go7_4 p.1 p.2 s
noncomputable def n7_4 (p : pl7_4) (s : sl7_4) : sl7_4 := nx7_4_2 p.1 p.2 s
noncomputable def y7_4 (p : pl7_4) (s : sl7_4) : List (Bool × Out) := [(xc7_4_0 p.1 p.2 s, (Ex.ret, [AV.bool false], []))]
noncomputable def z7_4 (p : pl7_4) (s : sl7_4) : Bool := xc7_4_1 p.1 p.2 s
noncomputable def d7_4 (p : pl7_4) (s : sl7_4) : Out := (Ex.exit (nat_lit 0), [AV.junk], [])
noncomputable def ls7_4 : St → Option (Bool × List (Bool × Ex × St) × Ex × St) := lspOf [0, 3] [] [2] [] Try.f7.ntmps (0 + tab.nid 7) de7_4 (spI g7_4 n7_4 y7_4 z7_4 d7_4)
theorem lo7_4 (rest : Lsp) : LoopOK1 (cfg Try.prog tab 100000 (gk k14 30) (selL 4 ls7_4 rest) 7 0 Try.f7.ntmps) (loopAt Try.f7 4) := LoopOK1.iter (i := 4) (by kernel_rfl) [0, 3] [] [2] [] vt7_4 vc7_4 de7_4 g7_4 n7_4 y7_4 z7_4 d7_4 (fun _ => rfl) de7_4_ok (fun p s => rd7_4 (selL 4 ls7_4 rest) (p.1) (p.2) s) (fun _ _ => rfl)
noncomputable def lsp7 : Lsp := (selL 4 ls7_4 noLsp)
theorem loops7 : ∀ c, Try.f7.body = some c → LoopsOK (cfg Try.prog tab 100000 (gk k14 30) lsp7 7 0 Try.f7.ntmps) c := loops_of [4] (by kernel_rfl) (by kernel_rfl) (fun i hi => by
  simp only [List.mem_cons, List.not_mem_nil, or_false] at hi
  subst hi
  · exact lo7_4 noLsp)
noncomputable def rev7_0 (tk : Tk) (es : List (List AV)) : sl7_4 := finL (g7_4 (tk, es)) (n7_4 (tk, es)) (0 : Int)
noncomputable def vev7_0 (tk : Tk) (es : List (List AV)) : Bool := bif decide ((↑es.length : Int) > (8 : Int)) then false else bif xc7_4_0 tk es (rev7_0 tk es) then false else true
noncomputable def vev7_1 (tk : Tk) (es : List (List AV)) : Bool := bif decide ((↑es.length : Int) > (8 : Int)) then true else bif (spI g7_4 n7_4 y7_4 z7_4 d7_4 ((tk, es), (0 : Int))).fst then true else false
theorem ev7 (tk : Tk) (es : List (List AV)) : evFin (cfg Try.prog tab 100000 (gk k14 30) lsp7 7 ([] : List Blk).length Try.f7.ntmps) ([] : List Blk).length Try.f7.resultTypes.toList Try.f7 [.sl tk [.sl [.int .u16, .int .u32], .int .i64] es] [] = bif vev7_1 tk es then some (true, AV.bool (vev7_0 tk es), []) else none := by
  have h : evFin (cfg Try.prog tab 100000 (gk k14 30) lsp7 7 ([] : List Blk).length Try.f7.ntmps) ([] : List Blk).length Try.f7.resultTypes.toList Try.f7 [.sl tk [.sl [.int .u16, .int .u32], .int .i64] es] [] = bif decide ((↑es.length : Int) > (8 : Int)) then some (true, AV.bool false, []) else bif (spI g7_4 n7_4 y7_4 z7_4 d7_4 ((tk, es), (0 : Int))).fst then bif xc7_4_0 tk es (rev7_0 tk es) then some (true, AV.bool false, []) else some (true, AV.bool true, []) else none := by kernel_rfl
  rw [h]
  clear h
  unfold vev7_0 vev7_1
  generalize ((spI g7_4 n7_4 y7_4 z7_4 d7_4 ((tk, es), (0 : Int))).fst) = c0
  generalize (decide ((↑es.length : Int) > (8 : Int))) = c1
  generalize (xc7_4_0 tk es (rev7_0 tk es)) = c2
  cases c1
  · skip
    cases c0
    · skip
      rfl
    · skip
      cases c2
      · skip
        rfl
      · skip
        rfl
  · skip
    rfl
-- spec vev7_1 tk es ;; (true, AV.bool (vev7_0 tk es), [])
noncomputable def sp7 : List AV → List Blk → Option (Bool × AV × List Blk)
  | [.sl tk [.sl [.int .u16, .int .u32], .int .i64] es], [] => spW (vev7_1 tk es) (some ((true, AV.bool (vev7_0 tk es), [])))
  | _, _ => none
noncomputable def k7 : Gam := fun f T C => match Nat.beq f 7 with
  | true => (sp7 T C).or (k14 f T C)
  | false => k14 f T C
theorem k7_ok : GamOK Try.prog k7 := by
  intro f T C r outs h
  unfold k7 at h
  cases hf : Nat.beq f 7 with
  | false => rw [hf] at h; exact k14_ok f T C r outs h
  | true =>
    have hf' := Nat.eq_of_beq_eq_true hf
    subst hf'
    rw [hf] at h
    dsimp only at h
    cases hs : sp7 T C with
    | none => rw [hs] at h; exact k14_ok _ T C r outs h
    | some x =>
      rw [hs] at h
      have hx : x = (true, r, outs) := by simpa using h
      subst hx
      unfold sp7 at hs
      split at hs
      · rename_i tk es
        obtain ⟨hb, rfl, rfl⟩ := spT_inv hs
        have he := ev7 tk es
        rw [hb, cond_true] at he
        obtain ⟨r0, o0, h0, he⟩ := evFin_inv he
        obtain ⟨h1, h2⟩ := fn_ok mixed plain (gk_ok k14_ok 30) Try.func7 loops7 h0
        exact ⟨h1, h2.fin he⟩
      · cases hs
noncomputable def rn9_3_0 (t0 : List (List AV)) (t4 : Int) (b1 : List (List AV)) : List (List AV) := [[AV.sl Tk.imm [Kd.int IntKind.u16, Kd.int IntKind.u32] (elsO ((t0.getD t4.toNat []).getD (0 : Nat) AV.junk)), AV.int IntKind.i64 (intOf ((t0.getD t4.toNat []).getD ((0 : Nat) + (1 : Nat)) AV.junk))]]
noncomputable def go9_3 (t0 : List (List AV)) (t4 : Int) (b1 : List (List AV)) : Bool := bif decide (t4 < (↑t0.length : Int)) then bif decide ((0 : Int) ≤ t4) && decide (t4 < (↑t0.length : Int)) then bif decide ((b1.length + (rn9_3_0 t0 t4 b1).length) * (32 : Nat) ≤ (140737488355328 : Nat)) then decide (b1.length + (rn9_3_0 t0 t4 b1).length ≤ (9223372036854775807 : Nat)) else false else false else false
noncomputable def nx9_3_1 (t0 : List (List AV)) (t4 : Int) (b1 : List (List AV)) : Int := IntKind.i64.wrap (t4 + (1 : Int))
noncomputable def nx9_3_2 (t0 : List (List AV)) (t4 : Int) (b1 : List (List AV)) : List (List AV) := b1 ++ rn9_3_0 t0 t4 b1
noncomputable def xc9_3_0 (t0 : List (List AV)) (t4 : Int) (b1 : List (List AV)) : Bool := bif decide (t4 < (↑t0.length : Int)) then false else true
theorem rd9_3 (rest : Lsp) (t0 : List (List AV)) (t4 : Int) (b1 : List (List AV)) : roundV (cfg Try.prog tab 100000 (gk k7 30) rest 9 0 Try.f9.ntmps) (loopAt Try.f9 3) [0, 3, 4] [0, 1] [3] [0, 1] [AV.sl Tk.imm [Kd.sl [Kd.int IntKind.u16, Kd.int IntKind.u32], Kd.int IntKind.i64] t0, AV.rf (nat_lit 1) [Kd.sl [Kd.int IntKind.u16, Kd.int IntKind.u32], Kd.int IntKind.i64], AV.int IntKind.i64 t4] [Blk.dead, Blk.row [Kd.sl [Kd.int IntKind.u16, Kd.int IntKind.u32], Kd.int IntKind.i64] b1] = bif go9_3 t0 t4 b1 then some (Ex.norm, [AV.sl Tk.imm [Kd.sl [Kd.int IntKind.u16, Kd.int IntKind.u32], Kd.int IntKind.i64] t0, AV.rf (nat_lit 1) [Kd.sl [Kd.int IntKind.u16, Kd.int IntKind.u32], Kd.int IntKind.i64], AV.int IntKind.i64 (nx9_3_1 t0 t4 b1)], [Blk.dead, Blk.row [Kd.sl [Kd.int IntKind.u16, Kd.int IntKind.u32], Kd.int IntKind.i64] (nx9_3_2 t0 t4 b1)]) else bif xc9_3_0 t0 t4 b1 then some (Ex.exit (nat_lit 0), [AV.rf (nat_lit 1) [Kd.sl [Kd.int IntKind.u16, Kd.int IntKind.u32], Kd.int IntKind.i64]], [Blk.dead, Blk.row [Kd.sl [Kd.int IntKind.u16, Kd.int IntKind.u32], Kd.int IntKind.i64] b1]) else none := by
  have h : roundV (cfg Try.prog tab 100000 (gk k7 30) rest 9 0 Try.f9.ntmps) (loopAt Try.f9 3) [0, 3, 4] [0, 1] [3] [0, 1] [AV.sl Tk.imm [Kd.sl [Kd.int IntKind.u16, Kd.int IntKind.u32], Kd.int IntKind.i64] t0, AV.rf (nat_lit 1) [Kd.sl [Kd.int IntKind.u16, Kd.int IntKind.u32], Kd.int IntKind.i64], AV.int IntKind.i64 t4] [Blk.dead, Blk.row [Kd.sl [Kd.int IntKind.u16, Kd.int IntKind.u32], Kd.int IntKind.i64] b1] = bif decide (t4 < (↑t0.length : Int)) then bif decide ((0 : Int) ≤ t4) && decide (t4 < (↑t0.length : Int)) then bif bif decide ((b1.length + (rn9_3_0 t0 t4 b1).length) * (32 : Nat) ≤ (140737488355328 : Nat)) then decide (b1.length + (rn9_3_0 t0 t4 b1).length ≤ (9223372036854775807 : Nat)) else false then some (Ex.norm, [AV.sl Tk.imm [Kd.sl [Kd.int IntKind.u16, Kd.int IntKind.u32], Kd.int IntKind.i64] t0, AV.rf (nat_lit 1) [Kd.sl [Kd.int IntKind.u16, Kd.int IntKind.u32], Kd.int IntKind.i64], AV.int IntKind.i64 (IntKind.i64.wrap (t4 + (1 : Int)))], [Blk.dead, Blk.row [Kd.sl [Kd.int IntKind.u16, Kd.int IntKind.u32], Kd.int IntKind.i64] (b1 ++ rn9_3_0 t0 t4 b1)]) else none else none else some (Ex.exit (nat_lit 0), [AV.rf (nat_lit 1) [Kd.sl [Kd.int IntKind.u16, Kd.int IntKind.u32], Kd.int IntKind.i64]], [Blk.dead, Blk.row [Kd.sl [Kd.int IntKind.u16, Kd.int IntKind.u32], Kd.int IntKind.i64] b1]) := by kernel_rfl
  rw [h]
  clear h
  unfold go9_3 nx9_3_1 nx9_3_2 xc9_3_0
  generalize (decide ((b1.length + (rn9_3_0 t0 t4 b1).length) * (32 : Nat) ≤ (140737488355328 : Nat))) = c0
  generalize (decide (b1.length + (rn9_3_0 t0 t4 b1).length ≤ (9223372036854775807 : Nat))) = c1
  generalize (decide ((0 : Int) ≤ t4) && decide (t4 < (↑t0.length : Int))) = c2
  generalize (decide (t4 < (↑t0.length : Int))) = c3
  cases c3
  · skip
    rfl
  · skip
    cases c2
    · skip
      rfl
    · skip
      cases c0
      · skip
        rfl
      · skip
        cases c1
        · skip
          rfl
        · skip
          rfl
abbrev pl9_3 : Type := (List (List AV))
abbrev sl9_3 : Type := Int × (List (List AV))
noncomputable def vt9_3 (a : pl9_3 × sl9_3) : List AV := [AV.sl Tk.imm [Kd.sl [Kd.int IntKind.u16, Kd.int IntKind.u32], Kd.int IntKind.i64] a.1, AV.rf (nat_lit 1) [Kd.sl [Kd.int IntKind.u16, Kd.int IntKind.u32], Kd.int IntKind.i64], AV.int IntKind.i64 a.2.1]
noncomputable def vc9_3 (a : pl9_3 × sl9_3) : List Blk := [Blk.dead, Blk.row [Kd.sl [Kd.int IntKind.u16, Kd.int IntKind.u32], Kd.int IntKind.i64] a.2.2]
noncomputable def de9_3 (vt : List AV) (vc : List Blk) : Option (pl9_3 × sl9_3) :=
  match vt with
  | [qa0, qa1, qa2] => (match vc with
  | [qb0, qb1] => (match qa0 with
  | AV.sl Tk.imm [Kd.sl [Kd.int IntKind.u16, Kd.int IntKind.u32], Kd.int IntKind.i64] t0 => (match qa1 with
  | AV.rf (1) [Kd.sl [Kd.int IntKind.u16, Kd.int IntKind.u32], Kd.int IntKind.i64] => (match qa2 with
  | AV.int IntKind.i64 t4 => (match qb0 with
  | Blk.dead => (match qb1 with
  | Blk.row [Kd.sl [Kd.int IntKind.u16, Kd.int IntKind.u32], Kd.int IntKind.i64] b1 => (some (t0, (t4, b1)))
  | _ => none)
  | _ => none)
  | _ => none)
  | _ => none)
  | _ => none)
  | _ => none)
  | _ => none
theorem de9_3_ok (vt : List AV) (vc : List Blk) (a : pl9_3 × sl9_3) (h : de9_3 vt vc = some a) : vt = vt9_3 a ∧ vc = vc9_3 a := by
  unfold de9_3 at h
  split at h
  rotate_left
  · cases h
  split at h
  rotate_left
  · cases h
  split at h
  rotate_left
  · cases h
  split at h
  rotate_left
  · cases h
  split at h
  rotate_left
  · cases h
  split at h
  rotate_left
  · cases h
  split at h
  rotate_left
  · cases h
  injection h with h
  subst h
  exact ⟨rfl, rfl⟩
noncomputable def g9_3 (p : pl9_3) (s : sl9_3) : Bool := go9_3 p s.1 s.2
noncomputable def n9_3 (p : pl9_3) (s : sl9_3) : sl9_3 := (nx9_3_1 p s.1 s.2, nx9_3_2 p s.1 s.2)
noncomputable def y9_3 (p : pl9_3) (s : sl9_3) : List (Bool × Out) := []
noncomputable def z9_3 (p : pl9_3) (s : sl9_3) : Bool := xc9_3_0 p s.1 s.2
noncomputable def d9_3 (p : pl9_3) (s : sl9_3) : Out := (Ex.exit (nat_lit 0), [AV.rf (nat_lit 1) [Kd.sl [Kd.int IntKind.u16, Kd.int IntKind.u32], Kd.int IntKind.i64]], [Blk.dead, Blk.row [Kd.sl [Kd.int IntKind.u16, Kd.int IntKind.u32], Kd.int IntKind.i64] s.2])
noncomputable def ls9_3 : St → Option (Bool × List (Bool × Ex × St) × Ex × St) := lspOf [0, 3, 4] [0, 1] [3] [0, 1] Try.f9.ntmps (0 + tab.nid 9) de9_3 (spI g9_3 n9_3 y9_3 z9_3 d9_3)
theorem lo9_3 (rest : Lsp) : LoopOK1 (cfg Try.prog tab 100000 (gk k7 30) (selL 3 ls9_3 rest) 9 0 Try.f9.ntmps) (loopAt Try.f9 3) := LoopOK1.iter (i := 3) (by kernel_rfl) [0, 3, 4] [0, 1] [3] [0, 1] vt9_3 vc9_3 de9_3 g9_3 n9_3 y9_3 z9_3 d9_3 (fun _ => rfl) de9_3_ok (fun p s => rd9_3 (selL 3 ls9_3 rest) p (s.1) (s.2)) (fun _ _ => rfl)
noncomputable def lsp9 : Lsp := (selL 3 ls9_3 noLsp)
theorem loops9 : ∀ c, Try.f9.body = some c → LoopsOK (cfg Try.prog tab 100000 (gk k7 30) lsp9 9 0 Try.f9.ntmps) c := loops_of [3] (by kernel_rfl) (by kernel_rfl) (fun i hi => by
  simp only [List.mem_cons, List.not_mem_nil, or_false] at hi
  subst hi
  · exact lo9_3 noLsp)
noncomputable def rev9_0 (es : List (List AV)) : sl9_3 := finL (g9_3 es) (n9_3 es) ((0 : Int), [])
noncomputable def vev9_0 (es : List (List AV)) : List (List AV) := (rev9_0 es).snd
noncomputable def vev9_1 (es : List (List AV)) : Bool := bif (spI g9_3 n9_3 y9_3 z9_3 d9_3 (es, (0 : Int), [])).fst then true else false
theorem ev9 (es : List (List AV)) : evFin (cfg Try.prog tab 100000 (gk k7 30) lsp9 9 ([] : List Blk).length Try.f9.ntmps) ([] : List Blk).length Try.f9.resultTypes.toList Try.f9 [.sl .imm [.sl [.int .u16, .int .u32], .int .i64] es] [] = bif vev9_1 es then some (true, AV.sl Tk.imm [Kd.sl [Kd.int IntKind.u16, Kd.int IntKind.u32], Kd.int IntKind.i64] (vev9_0 es), []) else none := by
  have h : evFin (cfg Try.prog tab 100000 (gk k7 30) lsp9 9 ([] : List Blk).length Try.f9.ntmps) ([] : List Blk).length Try.f9.resultTypes.toList Try.f9 [.sl .imm [.sl [.int .u16, .int .u32], .int .i64] es] [] = bif (spI g9_3 n9_3 y9_3 z9_3 d9_3 (es, (0 : Int), [])).fst then some (true, AV.sl Tk.imm [Kd.sl [Kd.int IntKind.u16, Kd.int IntKind.u32], Kd.int IntKind.i64] (rev9_0 es).snd, []) else none := by kernel_rfl
  rw [h]
  clear h
  unfold vev9_0 vev9_1
  generalize ((spI g9_3 n9_3 y9_3 z9_3 d9_3 (es, (0 : Int), [])).fst) = c0
  cases c0
  · skip
    rfl
  · skip
    rfl
-- spec vev9_1 es ;; (true, AV.sl Tk.imm [Kd.sl [Kd.int IntKind.u16, Kd.int IntKind.u32], Kd.int IntKind.i64] (vev9_0 es), [])
noncomputable def sp9 : List AV → List Blk → Option (Bool × AV × List Blk)
  | [.sl .imm [.sl [.int .u16, .int .u32], .int .i64] es], [] => spW (vev9_1 es) (some ((true, AV.sl Tk.imm [Kd.sl [Kd.int IntKind.u16, Kd.int IntKind.u32], Kd.int IntKind.i64] (vev9_0 es), [])))
  | _, _ => none
noncomputable def k9 : Gam := fun f T C => match Nat.beq f 9 with
  | true => (sp9 T C).or (k7 f T C)
  | false => k7 f T C
theorem k9_ok : GamOK Try.prog k9 := by
  intro f T C r outs h
  unfold k9 at h
  cases hf : Nat.beq f 9 with
  | false => rw [hf] at h; exact k7_ok f T C r outs h
  | true =>
    have hf' := Nat.eq_of_beq_eq_true hf
    subst hf'
    rw [hf] at h
    dsimp only at h
    cases hs : sp9 T C with
    | none => rw [hs] at h; exact k7_ok _ T C r outs h
    | some x =>
      rw [hs] at h
      have hx : x = (true, r, outs) := by simpa using h
      subst hx
      unfold sp9 at hs
      split at hs
      · rename_i es
        obtain ⟨hb, rfl, rfl⟩ := spT_inv hs
        have he := ev9 es
        rw [hb, cond_true] at he
        obtain ⟨r0, o0, h0, he⟩ := evFin_inv he
        obtain ⟨h1, h2⟩ := fn_ok mixed plain (gk_ok k7_ok 30) Try.func9 loops9 h0
        exact ⟨h1, h2.fin he⟩
      · cases hs
noncomputable def rn15_3_0 (t0k : Tk) (t0 : List (List AV)) (t4 : Int) (b1 : List (List AV)) : List (List AV) := [[AV.sl Tk.imm [Kd.int IntKind.u16, Kd.int IntKind.u32] (elsO ((t0.getD t4.toNat []).getD (0 : Nat) AV.junk)), AV.int IntKind.i64 (intOf ((t0.getD t4.toNat []).getD ((0 : Nat) + (1 : Nat)) AV.junk))]]
noncomputable def go15_3 (t0k : Tk) (t0 : List (List AV)) (t4 : Int) (b1 : List (List AV)) : Bool := bif decide (t4 < (↑t0.length : Int)) then bif decide ((0 : Int) ≤ t4) && decide (t4 < (↑t0.length : Int)) then bif decide ((b1.length + (rn15_3_0 t0k t0 t4 b1).length) * (32 : Nat) ≤ (140737488355328 : Nat)) then decide (b1.length + (rn15_3_0 t0k t0 t4 b1).length ≤ (9223372036854775807 : Nat)) else false else false else false
noncomputable def nx15_3_2 (t0k : Tk) (t0 : List (List AV)) (t4 : Int) (b1 : List (List AV)) : Int := IntKind.i64.wrap (t4 + (1 : Int))
noncomputable def nx15_3_3 (t0k : Tk) (t0 : List (List AV)) (t4 : Int) (b1 : List (List AV)) : List (List AV) := b1 ++ rn15_3_0 t0k t0 t4 b1
noncomputable def xc15_3_0 (t0k : Tk) (t0 : List (List AV)) (t4 : Int) (b1 : List (List AV)) : Bool := bif decide (t4 < (↑t0.length : Int)) then false else true
theorem rd15_3 (rest : Lsp) (t0k : Tk) (t0 : List (List AV)) (t4 : Int) (b1 : List (List AV)) : roundV (cfg Try.prog tab 100000 (gk k9 30) rest 15 0 Try.f15.ntmps) (loopAt Try.f15 3) [0, 3, 4] [0, 1] [3] [0, 1] [AV.sl t0k [Kd.sl [Kd.int IntKind.u16, Kd.int IntKind.u32], Kd.int IntKind.i64] t0, AV.rf (nat_lit 1) [Kd.sl [Kd.int IntKind.u16, Kd.int IntKind.u32], Kd.int IntKind.i64], AV.int IntKind.i64 t4] [Blk.dead, Blk.row [Kd.sl [Kd.int IntKind.u16, Kd.int IntKind.u32], Kd.int IntKind.i64] b1] = bif go15_3 t0k t0 t4 b1 then some (Ex.norm, [AV.sl t0k [Kd.sl [Kd.int IntKind.u16, Kd.int IntKind.u32], Kd.int IntKind.i64] t0, AV.rf (nat_lit 1) [Kd.sl [Kd.int IntKind.u16, Kd.int IntKind.u32], Kd.int IntKind.i64], AV.int IntKind.i64 (nx15_3_2 t0k t0 t4 b1)], [Blk.dead, Blk.row [Kd.sl [Kd.int IntKind.u16, Kd.int IntKind.u32], Kd.int IntKind.i64] (nx15_3_3 t0k t0 t4 b1)]) else bif xc15_3_0 t0k t0 t4 b1 then some (Ex.exit (nat_lit 0), [AV.rf (nat_lit 1) [Kd.sl [Kd.int IntKind.u16, Kd.int IntKind.u32], Kd.int IntKind.i64]], [Blk.dead, Blk.row [Kd.sl [Kd.int IntKind.u16, Kd.int IntKind.u32], Kd.int IntKind.i64] b1]) else none := by
  have h : roundV (cfg Try.prog tab 100000 (gk k9 30) rest 15 0 Try.f15.ntmps) (loopAt Try.f15 3) [0, 3, 4] [0, 1] [3] [0, 1] [AV.sl t0k [Kd.sl [Kd.int IntKind.u16, Kd.int IntKind.u32], Kd.int IntKind.i64] t0, AV.rf (nat_lit 1) [Kd.sl [Kd.int IntKind.u16, Kd.int IntKind.u32], Kd.int IntKind.i64], AV.int IntKind.i64 t4] [Blk.dead, Blk.row [Kd.sl [Kd.int IntKind.u16, Kd.int IntKind.u32], Kd.int IntKind.i64] b1] = bif decide (t4 < (↑t0.length : Int)) then bif decide ((0 : Int) ≤ t4) && decide (t4 < (↑t0.length : Int)) then bif bif decide ((b1.length + (rn15_3_0 t0k t0 t4 b1).length) * (32 : Nat) ≤ (140737488355328 : Nat)) then decide (b1.length + (rn15_3_0 t0k t0 t4 b1).length ≤ (9223372036854775807 : Nat)) else false then some (Ex.norm, [AV.sl t0k [Kd.sl [Kd.int IntKind.u16, Kd.int IntKind.u32], Kd.int IntKind.i64] t0, AV.rf (nat_lit 1) [Kd.sl [Kd.int IntKind.u16, Kd.int IntKind.u32], Kd.int IntKind.i64], AV.int IntKind.i64 (IntKind.i64.wrap (t4 + (1 : Int)))], [Blk.dead, Blk.row [Kd.sl [Kd.int IntKind.u16, Kd.int IntKind.u32], Kd.int IntKind.i64] (b1 ++ rn15_3_0 t0k t0 t4 b1)]) else none else none else some (Ex.exit (nat_lit 0), [AV.rf (nat_lit 1) [Kd.sl [Kd.int IntKind.u16, Kd.int IntKind.u32], Kd.int IntKind.i64]], [Blk.dead, Blk.row [Kd.sl [Kd.int IntKind.u16, Kd.int IntKind.u32], Kd.int IntKind.i64] b1]) := by kernel_rfl
  rw [h]
  clear h
  unfold go15_3 nx15_3_2 nx15_3_3 xc15_3_0
  generalize (decide ((b1.length + (rn15_3_0 t0k t0 t4 b1).length) * (32 : Nat) ≤ (140737488355328 : Nat))) = c0
  generalize (decide (b1.length + (rn15_3_0 t0k t0 t4 b1).length ≤ (9223372036854775807 : Nat))) = c1
  generalize (decide ((0 : Int) ≤ t4) && decide (t4 < (↑t0.length : Int))) = c2
  generalize (decide (t4 < (↑t0.length : Int))) = c3
  cases c3
  · skip
    rfl
  · skip
    cases c2
    · skip
      rfl
    · skip
      cases c0
      · skip
        rfl
      · skip
        cases c1
        · skip
          rfl
        · skip
          rfl
abbrev pl15_3 : Type := Tk × (List (List AV))
abbrev sl15_3 : Type := Int × (List (List AV))
noncomputable def vt15_3 (a : pl15_3 × sl15_3) : List AV := [AV.sl a.1.1 [Kd.sl [Kd.int IntKind.u16, Kd.int IntKind.u32], Kd.int IntKind.i64] a.1.2, AV.rf (nat_lit 1) [Kd.sl [Kd.int IntKind.u16, Kd.int IntKind.u32], Kd.int IntKind.i64], AV.int IntKind.i64 a.2.1]
noncomputable def vc15_3 (a : pl15_3 × sl15_3) : List Blk := [Blk.dead, Blk.row [Kd.sl [Kd.int IntKind.u16, Kd.int IntKind.u32], Kd.int IntKind.i64] a.2.2]
noncomputable def de15_3 (vt : List AV) (vc : List Blk) : Option (pl15_3 × sl15_3) :=
  match vt with
  | [qa0, qa1, qa2] => (match vc with
  | [qb0, qb1] => (match qa0 with
  | AV.sl t0k [Kd.sl [Kd.int IntKind.u16, Kd.int IntKind.u32], Kd.int IntKind.i64] t0 => (match qa1 with
  | AV.rf (1) [Kd.sl [Kd.int IntKind.u16, Kd.int IntKind.u32], Kd.int IntKind.i64] => (match qa2 with
  | AV.int IntKind.i64 t4 => (match qb0 with
  | Blk.dead => (match qb1 with
  | Blk.row [Kd.sl [Kd.int IntKind.u16, Kd.int IntKind.u32], Kd.int IntKind.i64] b1 => (some ((t0k, t0), (t4, b1)))
  | _ => none)
  | _ => none)
  | _ => none)
  | _ => none)
  | _ => none)
  | _ => none)
  | _ => none
theorem de15_3_ok (vt : List AV) (vc : List Blk) (a : pl15_3 × sl15_3) (h : de15_3 vt vc = some a) : vt = vt15_3 a ∧ vc = vc15_3 a := by
  unfold de15_3 at h
  split at h
  rotate_left
  · cases h
  split at h
  rotate_left
  · cases h
  split at h
  rotate_left
  · cases h
  split at h
  rotate_left
  · cases h
  split at h
  rotate_left
  · cases h
  split at h
  rotate_left
  · cases h
  split at h
  rotate_left
  · cases h
  injection h with h
  subst h
  exact ⟨rfl, rfl⟩
noncomputable def g15_3 (p : pl15_3) (s : sl15_3) : Bool := go15_3 p.1 p.2 s.1 s.2
noncomputable def n15_3 (p : pl15_3) (s : sl15_3) : sl15_3 := (nx15_3_2 p.1 p.2 s.1 s.2, nx15_3_3 p.1 p.2 s.1 s.2)
noncomputable def y15_3 (p : pl15_3) (s : sl15_3) : List (Bool × Out) := []
noncomputable def z15_3 (p : pl15_3) (s : sl15_3) : Bool := xc15_3_0 p.1 p.2 s.1 s.2
noncomputable def d15_3 (p : pl15_3) (s : sl15_3) : Out := (Ex.exit (nat_lit 0), [AV.rf (nat_lit 1) [Kd.sl [Kd.int IntKind.u16, Kd.int IntKind.u32], Kd.int IntKind.i64]], [Blk.dead, Blk.row [Kd.sl [Kd.int IntKind.u16, Kd.int IntKind.u32], Kd.int IntKind.i64] s.2])
noncomputable def ls15_3 : St → Option (Bool × List (Bool × Ex × St) × Ex × St) := lspOf [0, 3, 4] [0, 1] [3] [0, 1] Try.f15.ntmps (0 + tab.nid 15) de15_3 (spI g15_3 n15_3 y15_3 z15_3 d15_3)
theorem lo15_3 (rest : Lsp) : LoopOK1 (cfg Try.prog tab 100000 (gk k9 30) (selL 3 ls15_3 rest) 15 0 Try.f15.ntmps) (loopAt Try.f15 3) := LoopOK1.iter (i := 3) (by kernel_rfl) [0, 3, 4] [0, 1] [3] [0, 1] vt15_3 vc15_3 de15_3 g15_3 n15_3 y15_3 z15_3 d15_3 (fun _ => rfl) de15_3_ok (fun p s => rd15_3 (selL 3 ls15_3 rest) (p.1) (p.2) (s.1) (s.2)) (fun _ _ => rfl)
noncomputable def lsp15 : Lsp := (selL 3 ls15_3 noLsp)
theorem loops15 : ∀ c, Try.f15.body = some c → LoopsOK (cfg Try.prog tab 100000 (gk k9 30) lsp15 15 0 Try.f15.ntmps) c := loops_of [3] (by kernel_rfl) (by kernel_rfl) (fun i hi => by
  simp only [List.mem_cons, List.not_mem_nil, or_false] at hi
  subst hi
  · exact lo15_3 noLsp)
noncomputable def rev15_0 (tk : Tk) (es : List (List AV)) : sl15_3 := finL (g15_3 (tk, es)) (n15_3 (tk, es)) ((0 : Int), [])
noncomputable def vev15_0 (tk : Tk) (es : List (List AV)) : List (List AV) := (rev15_0 tk es).snd
noncomputable def vev15_1 (tk : Tk) (es : List (List AV)) : Bool := bif (spI g15_3 n15_3 y15_3 z15_3 d15_3 ((tk, es), (0 : Int), [])).fst then true else false
theorem ev15 (tk : Tk) (es : List (List AV)) : evFin (cfg Try.prog tab 100000 (gk k9 30) lsp15 15 ([] : List Blk).length Try.f15.ntmps) ([] : List Blk).length Try.f15.resultTypes.toList Try.f15 [.sl tk [.sl [.int .u16, .int .u32], .int .i64] es] [] = bif vev15_1 tk es then some (true, AV.sl Tk.imm [Kd.sl [Kd.int IntKind.u16, Kd.int IntKind.u32], Kd.int IntKind.i64] (vev15_0 tk es), []) else none := by
  have h : evFin (cfg Try.prog tab 100000 (gk k9 30) lsp15 15 ([] : List Blk).length Try.f15.ntmps) ([] : List Blk).length Try.f15.resultTypes.toList Try.f15 [.sl tk [.sl [.int .u16, .int .u32], .int .i64] es] [] = bif (spI g15_3 n15_3 y15_3 z15_3 d15_3 ((tk, es), (0 : Int), [])).fst then some (true, AV.sl Tk.imm [Kd.sl [Kd.int IntKind.u16, Kd.int IntKind.u32], Kd.int IntKind.i64] (rev15_0 tk es).snd, []) else none := by kernel_rfl
  rw [h]
  clear h
  unfold vev15_0 vev15_1
  generalize ((spI g15_3 n15_3 y15_3 z15_3 d15_3 ((tk, es), (0 : Int), [])).fst) = c0
  cases c0
  · skip
    rfl
  · skip
    rfl
-- spec vev15_1 tk es ;; (true, AV.sl Tk.imm [Kd.sl [Kd.int IntKind.u16, Kd.int IntKind.u32], Kd.int IntKind.i64] (vev15_0 tk es), [])
noncomputable def sp15 : List AV → List Blk → Option (Bool × AV × List Blk)
  | [.sl tk [.sl [.int .u16, .int .u32], .int .i64] es], [] => spW (vev15_1 tk es) (some ((true, AV.sl Tk.imm [Kd.sl [Kd.int IntKind.u16, Kd.int IntKind.u32], Kd.int IntKind.i64] (vev15_0 tk es), [])))
  | _, _ => none
noncomputable def k15 : Gam := fun f T C => match Nat.beq f 15 with
  | true => (sp15 T C).or (k9 f T C)
  | false => k9 f T C
theorem k15_ok : GamOK Try.prog k15 := by
  intro f T C r outs h
  unfold k15 at h
  cases hf : Nat.beq f 15 with
  | false => rw [hf] at h; exact k9_ok f T C r outs h
  | true =>
    have hf' := Nat.eq_of_beq_eq_true hf
    subst hf'
    rw [hf] at h
    dsimp only at h
    cases hs : sp15 T C with
    | none => rw [hs] at h; exact k9_ok _ T C r outs h
    | some x =>
      rw [hs] at h
      have hx : x = (true, r, outs) := by simpa using h
      subst hx
      unfold sp15 at hs
      split at hs
      · rename_i tk es
        obtain ⟨hb, rfl, rfl⟩ := spT_inv hs
        have he := ev15 tk es
        rw [hb, cond_true] at he
        obtain ⟨r0, o0, h0, he⟩ := evFin_inv he
        obtain ⟨h1, h2⟩ := fn_ok mixed plain (gk_ok k9_ok 30) Try.func15 loops15 h0
        exact ⟨h1, h2.fin he⟩
      · cases hs
end Go.Proofs.Gv
