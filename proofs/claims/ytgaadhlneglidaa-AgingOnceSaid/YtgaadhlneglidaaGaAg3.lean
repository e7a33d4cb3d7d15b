import Derived.Test.YtgaadhlneglidaaGt
import Derived.KernelRfl
import Derived.Test.YtgaadhlneglidaaGwF
import Derived.Test.YtgaadhlneglidaaGaAg2
namespace Go.Proofs.Gv
open Go.Proofs
set_option linter.unusedVariables false
noncomputable def vev27_0 (l : Int) (tk : Tk) (es : List (List AV)) : Bool := bif (es.length * (32 : Nat)).ble (140737488355328 : Nat) then true else false
theorem ev27 (l : Int) (tk : Tk) (es : List (List AV)) : evFun (cfg Try.prog tab 100000 (gk k20 30) noLsp 27 ([] : List Blk).length Try.f27.ntmps) Try.f27 [.agg [.int .i64 l, .sl tk [.int .i64, .int .i64, .int .i64, .int .i64] es]] [] = bif vev27_0 l tk es then some (AV.agg [AV.int IntKind.i64 l, AV.rf (nat_lit 0) [Kd.int IntKind.i64, Kd.int IntKind.i64, Kd.int IntKind.i64, Kd.int IntKind.i64]], [Blk.row [Kd.int IntKind.i64, Kd.int IntKind.i64, Kd.int IntKind.i64, Kd.int IntKind.i64] es]) else none := by
  have h : evFun (cfg Try.prog tab 100000 (gk k20 30) noLsp 27 ([] : List Blk).length Try.f27.ntmps) Try.f27 [.agg [.int .i64 l, .sl tk [.int .i64, .int .i64, .int .i64, .int .i64] es]] [] = bif (es.length * (32 : Nat)).ble (140737488355328 : Nat) then some (AV.agg [AV.int IntKind.i64 l, AV.rf (nat_lit 0) [Kd.int IntKind.i64, Kd.int IntKind.i64, Kd.int IntKind.i64, Kd.int IntKind.i64]], [Blk.row [Kd.int IntKind.i64, Kd.int IntKind.i64, Kd.int IntKind.i64, Kd.int IntKind.i64] es]) else none := by kernel_rfl
  rw [h]
  clear h
  unfold vev27_0
  generalize ((es.length * (32 : Nat)).ble (140737488355328 : Nat)) = c0
  cases c0
  · skip
    rfl
  · skip
    rfl
-- spec vev27_0 l tk es ;; (AV.agg [AV.int IntKind.i64 l, AV.rf (nat_lit 0) [Kd.int IntKind.i64, Kd.int IntKind.i64, Kd.int IntKind.i64, Kd.int IntKind.i64]], [Blk.row [Kd.int IntKind.i64, Kd.int IntKind.i64, Kd.int IntKind.i64, Kd.int IntKind.i64] es])
noncomputable def sp27 : List AV → List Blk → Option (Bool × AV × List Blk)
  | [.agg [.int .i64 l, .sl tk [.int .i64, .int .i64, .int .i64, .int .i64] es]], [] => spW (vev27_0 l tk es) (fin Try.prog (tab.frz 27) ([] : List Blk).length Try.f27.resultTypes.toList (some ((AV.agg [AV.int IntKind.i64 l, AV.rf (nat_lit 0) [Kd.int IntKind.i64, Kd.int IntKind.i64, Kd.int IntKind.i64, Kd.int IntKind.i64]], [Blk.row [Kd.int IntKind.i64, Kd.int IntKind.i64, Kd.int IntKind.i64, Kd.int IntKind.i64] es]))))
  | _, _ => none
noncomputable def k27 : Gam := fun f T C => match Nat.beq f 27 with
  | true => (sp27 T C).or (k20 f T C)
  | false => k20 f T C
theorem k27_ok : GamOK Try.prog k27 := by
  intro f T C r outs h
  unfold k27 at h
  cases hf : Nat.beq f 27 with
  | false => rw [hf] at h; exact k20_ok f T C r outs h
  | true =>
    have hf' := Nat.eq_of_beq_eq_true hf
    subst hf'
    rw [hf] at h
    dsimp only at h
    cases hs : sp27 T C with
    | none => rw [hs] at h; exact k20_ok _ T C r outs h
    | some x =>
      rw [hs] at h
      have hx : x = (true, r, outs) := by simpa using h
      subst hx
      unfold sp27 at hs
      split at hs
      · rename_i l tk es
        obtain ⟨hb, hs⟩ := spW_inv hs
        have he := ev27 l tk es
        rw [hb, cond_true] at he
        obtain ⟨h1, h2⟩ := fn_ok mixed plain (gk_ok k20_ok 30) Try.func27 (fun c _ => LoopsOK.none (fun _ _ => rfl) c) he
        exact ⟨h1, h2.fin hs⟩
      · cases hs
noncomputable def vev18_0 (l : Int) : Int := bif !vev34_0 l (1 : Int) (1000 : Int) then (0 : Int) else l
noncomputable def vev18_1 (l : Int) : Int := bif !vev34_0 l (1 : Int) (1000 : Int) then (8 : Int) else (0 : Int)
theorem ev18 (l : Int) : evFin (cfg Try.prog tab 100000 (gk k27 30) noLsp 18 ([] : List Blk).length Try.f18.ntmps) ([] : List Blk).length Try.f18.resultTypes.toList Try.f18 [.int .i64 l] [] = some (true, AV.tup [AV.agg [AV.int IntKind.i64 (vev18_0 l), AV.sl Tk.imm [Kd.int IntKind.i64, Kd.int IntKind.i64, Kd.int IntKind.i64, Kd.int IntKind.i64] []], AV.int IntKind.i64 (vev18_1 l)], []) := by
  have h : evFin (cfg Try.prog tab 100000 (gk k27 30) noLsp 18 ([] : List Blk).length Try.f18.ntmps) ([] : List Blk).length Try.f18.resultTypes.toList Try.f18 [.int .i64 l] [] = bif !vev34_0 l (1 : Int) (1000 : Int) then some (true, AV.tup [AV.agg [AV.int IntKind.i64 (0 : Int), AV.sl Tk.imm [Kd.int IntKind.i64, Kd.int IntKind.i64, Kd.int IntKind.i64, Kd.int IntKind.i64] []], AV.int IntKind.i64 (8 : Int)], []) else some (true, AV.tup [AV.agg [AV.int IntKind.i64 l, AV.sl Tk.imm [Kd.int IntKind.i64, Kd.int IntKind.i64, Kd.int IntKind.i64, Kd.int IntKind.i64] []], AV.int IntKind.i64 (0 : Int)], []) := by kernel_rfl
  rw [h]
  clear h
  unfold vev18_0 vev18_1
  generalize (!vev34_0 l (1 : Int) (1000 : Int)) = c0
  cases c0
  · skip
    rfl
  · skip
    rfl
-- spec true ;; (true, AV.tup [AV.agg [AV.int IntKind.i64 (vev18_0 l), AV.sl Tk.imm [Kd.int IntKind.i64, Kd.int IntKind.i64, Kd.int IntKind.i64, Kd.int IntKind.i64] []], AV.int IntKind.i64 (vev18_1 l)], [])
noncomputable def sp18 : List AV → List Blk → Option (Bool × AV × List Blk)
  | [.int .i64 l], [] => spW (true) (some ((true, AV.tup [AV.agg [AV.int IntKind.i64 (vev18_0 l), AV.sl Tk.imm [Kd.int IntKind.i64, Kd.int IntKind.i64, Kd.int IntKind.i64, Kd.int IntKind.i64] []], AV.int IntKind.i64 (vev18_1 l)], [])))
  | _, _ => none
noncomputable def k18 : Gam := fun f T C => match Nat.beq f 18 with
  | true => (sp18 T C).or (k27 f T C)
  | false => k27 f T C
theorem k18_ok : GamOK Try.prog k18 := by
  intro f T C r outs h
  unfold k18 at h
  cases hf : Nat.beq f 18 with
  | false => rw [hf] at h; exact k27_ok f T C r outs h
  | true =>
    have hf' := Nat.eq_of_beq_eq_true hf
    subst hf'
    rw [hf] at h
    dsimp only at h
    cases hs : sp18 T C with
    | none => rw [hs] at h; exact k27_ok _ T C r outs h
    | some x =>
      rw [hs] at h
      have hx : x = (true, r, outs) := by simpa using h
      subst hx
      unfold sp18 at hs
      split at hs
      · rename_i l
        obtain ⟨hb, rfl, rfl⟩ := spT_inv hs
        have he := ev18 l
        obtain ⟨r0, o0, h0, he⟩ := evFin_inv he
        obtain ⟨h1, h2⟩ := fn_ok mixed plain (gk_ok k27_ok 30) Try.func18 (fun c _ => LoopsOK.none (fun _ _ => rfl) c) h0
        exact ⟨h1, h2.fin he⟩
      · cases hs
noncomputable def go41_4 (t0k : Tk) (t0 : List (List AV)) (t1k : Tk) (t1 : List (List AV)) (t12 : Int) (t13 : Int) : Bool := bif decide (t13 < t12) then bif decide ((0 : Int) ≤ t13) && decide (t13 < (↑t0.length : Int)) then bif decide ((0 : Int) ≤ t13) && decide (t13 < (↑t1.length : Int)) then bif !(intOf ((t0.getD t13.toNat []).getD (0 : Nat) AV.junk) == intOf ((t1.getD t13.toNat []).getD (0 : Nat) AV.junk) && (intOf ((t0.getD t13.toNat []).getD ((0 : Nat) + (1 : Nat)) AV.junk) == intOf ((t1.getD t13.toNat []).getD ((0 : Nat) + (1 : Nat)) AV.junk) && (intOf ((t0.getD t13.toNat []).getD ((0 : Nat) + (1 : Nat) + (1 : Nat)) AV.junk) == intOf ((t1.getD t13.toNat []).getD ((0 : Nat) + (1 : Nat) + (1 : Nat)) AV.junk) && (intOf ((t0.getD t13.toNat []).getD ((0 : Nat) + (1 : Nat) + (1 : Nat) + (1 : Nat)) AV.junk) == intOf ((t1.getD t13.toNat []).getD ((0 : Nat) + (1 : Nat) + (1 : Nat) + (1 : Nat)) AV.junk) && true)))) then false else true else false else false else false
noncomputable def nx41_4_5 (t0k : Tk) (t0 : List (List AV)) (t1k : Tk) (t1 : List (List AV)) (t12 : Int) (t13 : Int) : Int := IntKind.i64.wrap (t13 + (1 : Int))
noncomputable def xc41_4_0 (t0k : Tk) (t0 : List (List AV)) (t1k : Tk) (t1 : List (List AV)) (t12 : Int) (t13 : Int) : Bool := bif decide (t13 < t12) then bif decide ((0 : Int) ≤ t13) && decide (t13 < (↑t0.length : Int)) then bif decide ((0 : Int) ≤ t13) && decide (t13 < (↑t1.length : Int)) then !(intOf ((t0.getD t13.toNat []).getD (0 : Nat) AV.junk) == intOf ((t1.getD t13.toNat []).getD (0 : Nat) AV.junk) && (intOf ((t0.getD t13.toNat []).getD ((0 : Nat) + (1 : Nat)) AV.junk) == intOf ((t1.getD t13.toNat []).getD ((0 : Nat) + (1 : Nat)) AV.junk) && (intOf ((t0.getD t13.toNat []).getD ((0 : Nat) + (1 : Nat) + (1 : Nat)) AV.junk) == intOf ((t1.getD t13.toNat []).getD ((0 : Nat) + (1 : Nat) + (1 : Nat)) AV.junk) && (intOf ((t0.getD t13.toNat []).getD ((0 : Nat) + (1 : Nat) + (1 : Nat) + (1 : Nat)) AV.junk) == intOf ((t1.getD t13.toNat []).getD ((0 : Nat) + (1 : Nat) + (1 : Nat) + (1 : Nat)) AV.junk) && true)))) else false else false else false
noncomputable def xc41_4_1 (t0k : Tk) (t0 : List (List AV)) (t1k : Tk) (t1 : List (List AV)) (t12 : Int) (t13 : Int) : Bool := bif decide (t13 < t12) then false else true
theorem rd41_4 (rest : Lsp) (t0k : Tk) (t0 : List (List AV)) (t1k : Tk) (t1 : List (List AV)) (t12 : Int) (t13 : Int) : roundV (cfg Try.prog tab 100000 (gk k18 30) rest 41 0 Try.f41.ntmps) (loopAt Try.f41 4) [0, 1, 12, 13] [] [4] [] [AV.sl t0k [Kd.int IntKind.i64, Kd.int IntKind.i64, Kd.int IntKind.i64, Kd.int IntKind.i64] t0, AV.sl t1k [Kd.int IntKind.i64, Kd.int IntKind.i64, Kd.int IntKind.i64, Kd.int IntKind.i64] t1, AV.int IntKind.i64 t12, AV.int IntKind.i64 t13] [] = bif go41_4 t0k t0 t1k t1 t12 t13 then some (Ex.norm, [AV.sl t0k [Kd.int IntKind.i64, Kd.int IntKind.i64, Kd.int IntKind.i64, Kd.int IntKind.i64] t0, AV.sl t1k [Kd.int IntKind.i64, Kd.int IntKind.i64, Kd.int IntKind.i64, Kd.int IntKind.i64] t1, AV.int IntKind.i64 t12, AV.int IntKind.i64 (nx41_4_5 t0k t0 t1k t1 t12 t13)], []) else bif xc41_4_0 t0k t0 t1k t1 t12 t13 then some (Ex.ret, [AV.bool false], []) else bif xc41_4_1 t0k t0 t1k t1 t12 t13 then some (Ex.exit (nat_lit 0), [AV.junk], []) else none := by
  have h : roundV (cfg Try.prog tab 100000 (gk k18 30) rest 41 0 Try.f41.ntmps) (loopAt Try.f41 4) [0, 1, 12, 13] [] [4] [] [AV.sl t0k [Kd.int IntKind.i64, Kd.int IntKind.i64, Kd.int IntKind.i64, Kd.int IntKind.i64] t0, AV.sl t1k [Kd.int IntKind.i64, Kd.int IntKind.i64, Kd.int IntKind.i64, Kd.int IntKind.i64] t1, AV.int IntKind.i64 t12, AV.int IntKind.i64 t13] [] = bif decide (t13 < t12) then bif decide ((0 : Int) ≤ t13) && decide (t13 < (↑t0.length : Int)) then bif decide ((0 : Int) ≤ t13) && decide (t13 < (↑t1.length : Int)) then bif !(intOf ((t0.getD t13.toNat []).getD (0 : Nat) AV.junk) == intOf ((t1.getD t13.toNat []).getD (0 : Nat) AV.junk) && (intOf ((t0.getD t13.toNat []).getD ((0 : Nat) + (1 : Nat)) AV.junk) == intOf ((t1.getD t13.toNat []).getD ((0 : Nat) + (1 : Nat)) AV.junk) && (intOf ((t0.getD t13.toNat []).getD ((0 : Nat) + (1 : Nat) + (1 : Nat)) AV.junk) == intOf ((t1.getD t13.toNat []).getD ((0 : Nat) + (1 : Nat) + (1 : Nat)) AV.junk) && (intOf ((t0.getD t13.toNat []).getD ((0 : Nat) + (1 : Nat) + (1 : Nat) + (1 : Nat)) AV.junk) == intOf ((t1.getD t13.toNat []).getD ((0 : Nat) + (1 : Nat) + (1 : Nat) + (1 : Nat)) AV.junk) && true)))) then some (Ex.ret, [AV.bool false], []) else some (Ex.norm, [AV.sl t0k [Kd.int IntKind.i64, Kd.int IntKind.i64, Kd.int IntKind.i64, Kd.int IntKind.i64] t0, AV.sl t1k [Kd.int IntKind.i64, Kd.int IntKind.i64, Kd.int IntKind.i64, Kd.int IntKind.i64] t1, AV.int IntKind.i64 t12, AV.int IntKind.i64 (IntKind.i64.wrap (t13 + (1 : Int)))], []) else none else none else some (Ex.exit (nat_lit 0), [AV.junk], []) := by kernel_rfl
  rw [h]
  clear h
  unfold go41_4 nx41_4_5 xc41_4_0 xc41_4_1
  generalize (!(intOf ((t0.getD t13.toNat []).getD (0 : Nat) AV.junk) == intOf ((t1.getD t13.toNat []).getD (0 : Nat) AV.junk) && (intOf ((t0.getD t13.toNat []).getD ((0 : Nat) + (1 : Nat)) AV.junk) == intOf ((t1.getD t13.toNat []).getD ((0 : Nat) + (1 : Nat)) AV.junk) && (intOf ((t0.getD t13.toNat []).getD ((0 : Nat) + (1 : Nat) + (1 : Nat)) AV.junk) == intOf ((t1.getD t13.toNat []).getD ((0 : Nat) + (1 : Nat) + (1 : Nat)) AV.junk) && (intOf ((t0.getD t13.toNat []).getD ((0 : Nat) + (1 : Nat) + (1 : Nat) + (1 : Nat)) AV.junk) == intOf ((t1.getD t13.toNat []).getD ((0 : Nat) + (1 : Nat) + (1 : Nat) + (1 : Nat)) AV.junk) && true))))) = c0
  generalize (decide ((0 : Int) ≤ t13) && decide (t13 < (↑t0.length : Int))) = c1
  generalize (decide ((0 : Int) ≤ t13) && decide (t13 < (↑t1.length : Int))) = c2
  generalize (decide (t13 < t12)) = c3
  cases c3
  · skip
    rfl
  · skip
    cases c1
    · skip
      rfl
    · skip
      cases c2
      · skip
        rfl
      · skip
        cases c0
        · skip
          rfl
        · skip
          rfl
abbrev pl41_4 : Type := Tk × (List (List AV)) × Tk × (List (List AV)) × Int
abbrev sl41_4 : Type := Int
noncomputable def vt41_4 (a : pl41_4 × sl41_4) : List AV := [AV.sl a.1.1 [Kd.int IntKind.i64, Kd.int IntKind.i64, Kd.int IntKind.i64, Kd.int IntKind.i64] a.1.2.1, AV.sl a.1.2.2.1 [Kd.int IntKind.i64, Kd.int IntKind.i64, Kd.int IntKind.i64, Kd.int IntKind.i64] a.1.2.2.2.1, AV.int IntKind.i64 a.1.2.2.2.2, AV.int IntKind.i64 a.2]
noncomputable def vc41_4 (a : pl41_4 × sl41_4) : List Blk := []
noncomputable def de41_4 (vt : List AV) (vc : List Blk) : Option (pl41_4 × sl41_4) :=
  match vt with
  | [qa0, qa1, qa2, qa3] => (match vc with
  | [] => (match qa0 with
  | AV.sl t0k [Kd.int IntKind.i64, Kd.int IntKind.i64, Kd.int IntKind.i64, Kd.int IntKind.i64] t0 => (match qa1 with
  | AV.sl t1k [Kd.int IntKind.i64, Kd.int IntKind.i64, Kd.int IntKind.i64, Kd.int IntKind.i64] t1 => (match qa2 with
  | AV.int IntKind.i64 t12 => (match qa3 with
  | AV.int IntKind.i64 t13 => (some ((t0k, t0, t1k, t1, t12), t13))
  | _ => none)
  | _ => none)
  | _ => none)
  | _ => none)
  | _ => none)
  | _ => none
theorem de41_4_ok (vt : List AV) (vc : List Blk) (a : pl41_4 × sl41_4) (h : de41_4 vt vc = some a) : vt = vt41_4 a ∧ vc = vc41_4 a := by
  unfold de41_4 at h
  split at h
  rotate_left
  · cases h
  split at h
  rotate_left
  · cases h
  split at h
  rotate_left
  · cases h
  split at h
  rotate_left
  · cases h
  split at h
  rotate_left
  · cases h
  split at h
  rotate_left
  · cases h
  injection h with h
  subst h
  exact ⟨rfl, rfl⟩
noncomputable def g41_4 (p : pl41_4) (s : sl41_4) : Bool := go41_4 p.1 p.2.1 p.2.2.1 p.2.2.2.1 p.2.2.2.2 s
noncomputable def n41_4 (p : pl41_4) (s : sl41_4) : sl41_4 := nx41_4_5 p.1 p.2.1 p.2.2.1 p.2.2.2.1 p.2.2.2.2 s
noncomputable def y41_4 (p : pl41_4) (s : sl41_4) : List (Bool × Out) := [(xc41_4_0 p.1 p.2.1 p.2.2.1 p.2.2.2.1 p.2.2.2.2 s, (Ex.ret, [AV.bool false], []))]
noncomputable def z41_4 (p : pl41_4) (s : sl41_4) : Bool := xc41_4_1 p.1 p.2.1 p.2.2.1 p.2.2.2.1 p.2.2.2.2 s
noncomputable def d41_4 (p : pl41_4) (s : sl41_4) : Out := (Ex.exit (nat_lit 0), [AV.junk], [])
noncomputable def ls41_4 : St → Option (Bool × List (Bool × Ex × St) × Ex × St) := lspOf [0, 1, 12, 13] [] [4] [] Try.f41.ntmps (0 + tab.nid 41) de41_4 (spI g41_4 n41_4 y41_4 z41_4 d41_4)
theorem lo41_4 (rest : Lsp) : LoopOK1 (cfg Try.prog tab 100000 (gk k18 30) (selL 4 ls41_4 rest) 41 0 Try.f41.ntmps) (loopAt Try.f41 4) := LoopOK1.iter (i := 4) (by kernel_rfl) [0, 1, 12, 13] [] [4] [] vt41_4 vc41_4 de41_4 g41_4 n41_4 y41_4 z41_4 d41_4 (fun _ => rfl) de41_4_ok (fun p s => rd41_4 (selL 4 ls41_4 rest) (p.1) (p.2.1) (p.2.2.1) (p.2.2.2.1) (p.2.2.2.2) s) (fun _ _ => rfl)
noncomputable def lsp41 : Lsp := (selL 4 ls41_4 noLsp)
theorem loops41 : ∀ c, Try.f41.body = some c → LoopsOK (cfg Try.prog tab 100000 (gk k18 30) lsp41 41 0 Try.f41.ntmps) c := loops_of [4] (by kernel_rfl) (by kernel_rfl) (fun i hi => by
  simp only [List.mem_cons, List.not_mem_nil, or_false] at hi
  subst hi
  · exact lo41_4 noLsp)
noncomputable def rev41_0 (tk : Tk) (es : List (List AV)) (tk2 : Tk) (es2 : List (List AV)) : sl41_4 := finL (g41_4 (tk, es, tk2, es2, (↑es.length : Int))) (n41_4 (tk, es, tk2, es2, (↑es.length : Int))) (0 : Int)
noncomputable def vev41_0 (tk : Tk) (es : List (List AV)) (tk2 : Tk) (es2 : List (List AV)) : Bool := bif (↑es.length : Int) != (↑es2.length : Int) then false else bif xc41_4_0 tk es tk2 es2 (↑es.length : Int) (rev41_0 tk es tk2 es2) then false else true
noncomputable def vev41_1 (tk : Tk) (es : List (List AV)) (tk2 : Tk) (es2 : List (List AV)) : Bool := bif (↑es.length : Int) != (↑es2.length : Int) then true else bif (spI g41_4 n41_4 y41_4 z41_4 d41_4 ((tk, es, tk2, es2, (↑es.length : Int)), (0 : Int))).fst then true else false
theorem ev41 (tk : Tk) (es : List (List AV)) (tk2 : Tk) (es2 : List (List AV)) : evFin (cfg Try.prog tab 100000 (gk k18 30) lsp41 41 ([] : List Blk).length Try.f41.ntmps) ([] : List Blk).length Try.f41.resultTypes.toList Try.f41 [.sl tk [.int .i64, .int .i64, .int .i64, .int .i64] es, .sl tk2 [.int .i64, .int .i64, .int .i64, .int .i64] es2] [] = bif vev41_1 tk es tk2 es2 then some (true, AV.bool (vev41_0 tk es tk2 es2), []) else none := by
  have h : evFin (cfg Try.prog tab 100000 (gk k18 30) lsp41 41 ([] : List Blk).length Try.f41.ntmps) ([] : List Blk).length Try.f41.resultTypes.toList Try.f41 [.sl tk [.int .i64, .int .i64, .int .i64, .int .i64] es, .sl tk2 [.int .i64, .int .i64, .int .i64, .int .i64] es2] [] = bif (↑es.length : Int) != (↑es2.length : Int) then some (true, AV.bool false, []) else bif (spI g41_4 n41_4 y41_4 z41_4 d41_4 ((tk, es, tk2, es2, (↑es.length : Int)), (0 : Int))).fst then bif xc41_4_0 tk es tk2 es2 (↑es.length : Int) (rev41_0 tk es tk2 es2) then some (true, AV.bool false, []) else some (true, AV.bool true, []) else none := by kernel_rfl
  rw [h]
  clear h
  unfold vev41_0 vev41_1
  generalize ((spI g41_4 n41_4 y41_4 z41_4 d41_4 ((tk, es, tk2, es2, (↑es.length : Int)), (0 : Int))).fst) = c0
  generalize ((↑es.length : Int) != (↑es2.length : Int)) = c1
  generalize (xc41_4_0 tk es tk2 es2 (↑es.length : Int) (rev41_0 tk es tk2 es2)) = c2
  cases c1
  · skip
    cases c0
    · skip
      rfl
    · skip
      cases c2
      · skip
        rfl
      · skip
        rfl
  · skip
    rfl
-- spec vev41_1 tk es tk2 es2 ;; (true, AV.bool (vev41_0 tk es tk2 es2), [])
noncomputable def sp41 : List AV → List Blk → Option (Bool × AV × List Blk)
  | [.sl tk [.int .i64, .int .i64, .int .i64, .int .i64] es, .sl tk2 [.int .i64, .int .i64, .int .i64, .int .i64] es2], [] => spW (vev41_1 tk es tk2 es2) (some ((true, AV.bool (vev41_0 tk es tk2 es2), [])))
  | _, _ => none
noncomputable def k41 : Gam := fun f T C => match Nat.beq f 41 with
  | true => (sp41 T C).or (k18 f T C)
  | false => k18 f T C
theorem k41_ok : GamOK Try.prog k41 := by
  intro f T C r outs h
  unfold k41 at h
  cases hf : Nat.beq f 41 with
  | false => rw [hf] at h; exact k18_ok f T C r outs h
  | true =>
    have hf' := Nat.eq_of_beq_eq_true hf
    subst hf'
    rw [hf] at h
    dsimp only at h
    cases hs : sp41 T C with
    | none => rw [hs] at h; exact k18_ok _ T C r outs h
    | some x =>
      rw [hs] at h
      have hx : x = (true, r, outs) := by simpa using h
      subst hx
      unfold sp41 at hs
      split at hs
      · rename_i tk es tk2 es2
        obtain ⟨hb, rfl, rfl⟩ := spT_inv hs
        have he := ev41 tk es tk2 es2
        rw [hb, cond_true] at he
        obtain ⟨r0, o0, h0, he⟩ := evFin_inv he
        obtain ⟨h1, h2⟩ := fn_ok mixed plain (gk_ok k18_ok 30) Try.func41 loops41 h0
        exact ⟨h1, h2.fin he⟩
      · cases hs
noncomputable def vev26_0 (l : Int) (tk : Tk) (es : List (List AV)) (l2 : Int) (tk2 : Tk) (es2 : List (List AV)) : Bool := bif l == l2 then bif vev41_1 tk es tk2 es2 then bif true then vev41_0 tk es tk2 es2 else false else false else false
noncomputable def vev26_1 (l : Int) (tk : Tk) (es : List (List AV)) (l2 : Int) (tk2 : Tk) (es2 : List (List AV)) : Bool := bif bif l == l2 then vev41_1 tk es tk2 es2 else true then true else false
theorem ev26 (l : Int) (tk : Tk) (es : List (List AV)) (l2 : Int) (tk2 : Tk) (es2 : List (List AV)) : evFin (cfg Try.prog tab 100000 (gk k41 30) noLsp 26 ([] : List Blk).length Try.f26.ntmps) ([] : List Blk).length Try.f26.resultTypes.toList Try.f26 [.agg [.int .i64 l, .sl tk [.int .i64, .int .i64, .int .i64, .int .i64] es], .agg [.int .i64 l2, .sl tk2 [.int .i64, .int .i64, .int .i64, .int .i64] es2]] [] = bif vev26_1 l tk es l2 tk2 es2 then some (true, AV.bool (vev26_0 l tk es l2 tk2 es2), []) else none := by
  have h : evFin (cfg Try.prog tab 100000 (gk k41 30) noLsp 26 ([] : List Blk).length Try.f26.ntmps) ([] : List Blk).length Try.f26.resultTypes.toList Try.f26 [.agg [.int .i64 l, .sl tk [.int .i64, .int .i64, .int .i64, .int .i64] es], .agg [.int .i64 l2, .sl tk2 [.int .i64, .int .i64, .int .i64, .int .i64] es2]] [] = bif bif l == l2 then bif vev41_1 tk es tk2 es2 then true else false else true then some (true, AV.bool (bif l == l2 then bif vev41_1 tk es tk2 es2 then bif true then vev41_0 tk es tk2 es2 else false else false else false), []) else none := by kernel_rfl
  rw [h]
  clear h
  unfold vev26_0 vev26_1
  generalize (l == l2) = c0
  generalize (vev41_1 tk es tk2 es2) = c1
  cases c0
  · skip
    rfl
  · skip
    cases c1
    · skip
      rfl
    · skip
      rfl
-- spec vev26_1 l tk es l2 tk2 es2 ;; (true, AV.bool (vev26_0 l tk es l2 tk2 es2), [])
noncomputable def sp26 : List AV → List Blk → Option (Bool × AV × List Blk)
  | [.agg [.int .i64 l, .sl tk [.int .i64, .int .i64, .int .i64, .int .i64] es], .agg [.int .i64 l2, .sl tk2 [.int .i64, .int .i64, .int .i64, .int .i64] es2]], [] => spW (vev26_1 l tk es l2 tk2 es2) (some ((true, AV.bool (vev26_0 l tk es l2 tk2 es2), [])))
  | _, _ => none
noncomputable def k26 : Gam := fun f T C => match Nat.beq f 26 with
  | true => (sp26 T C).or (k41 f T C)
  | false => k41 f T C
theorem k26_ok : GamOK Try.prog k26 := by
  intro f T C r outs h
  unfold k26 at h
  cases hf : Nat.beq f 26 with
  | false => rw [hf] at h; exact k41_ok f T C r outs h
  | true =>
    have hf' := Nat.eq_of_beq_eq_true hf
    subst hf'
    rw [hf] at h
    dsimp only at h
    cases hs : sp26 T C with
    | none => rw [hs] at h; exact k41_ok _ T C r outs h
    | some x =>
      rw [hs] at h
      have hx : x = (true, r, outs) := by simpa using h
      subst hx
      unfold sp26 at hs
      split at hs
      · rename_i l tk es l2 tk2 es2
        obtain ⟨hb, rfl, rfl⟩ := spT_inv hs
        have he := ev26 l tk es l2 tk2 es2
        rw [hb, cond_true] at he
        obtain ⟨r0, o0, h0, he⟩ := evFin_inv he
        obtain ⟨h1, h2⟩ := fn_ok mixed plain (gk_ok k41_ok 30) Try.func26 (fun c _ => LoopsOK.none (fun _ _ => rfl) c) h0
        exact ⟨h1, h2.fin he⟩
      · cases hs
noncomputable def rev10_0 (l : Int) (es : List (List AV)) (id : Int) (rank : Int) (cost : Int) : List (List AV) := [[AV.int IntKind.i64 id, AV.int IntKind.i64 rank, AV.int IntKind.i64 cost, AV.int IntKind.i64 (0 : Int)]]
noncomputable def vev10_0 (l : Int) (es : List (List AV)) (id : Int) (rank : Int) (cost : Int) : List (List AV) := bif vev24_0 l Tk.imm es != (0 : Int) then es else bif !vev28_0 id rank cost (0 : Int) then es else bif decide (vev36a_0 Tk.imm es id ≥ (0 : Int)) then es else bif decide ((↑es.length : Int) ≥ (16 : Int)) then es else es ++ rev10_0 l es id rank cost
noncomputable def vev10_1 (l : Int) (es : List (List AV)) (id : Int) (rank : Int) (cost : Int) : Int := bif vev24_0 l Tk.imm es != (0 : Int) then vev24_0 l Tk.imm es else bif !vev28_0 id rank cost (0 : Int) then (8 : Int) else bif decide (vev36a_0 Tk.imm es id ≥ (0 : Int)) then (12 : Int) else bif decide ((↑es.length : Int) ≥ (16 : Int)) then (7 : Int) else (0 : Int)
noncomputable def vev10_2 (l : Int) (es : List (List AV)) (id : Int) (rank : Int) (cost : Int) : Bool := bif vev27_0 l Tk.imm es then bif vev24_1 l Tk.imm es then bif vev24_0 l Tk.imm es != (0 : Int) then true else bif !vev28_0 id rank cost (0 : Int) then true else bif vev29_0 l Tk.imm es id then bif decide (vev36a_0 Tk.imm es id ≥ (0 : Int)) then true else bif decide ((↑es.length : Int) ≥ (16 : Int)) then true else bif bif decide ((es.length + (rev10_0 l es id rank cost).length) * (32 : Nat) ≤ (140737488355328 : Nat)) then decide (es.length + (rev10_0 l es id rank cost).length ≤ (9223372036854775807 : Nat)) else false then true else false else false else false else false
theorem ev10 (l : Int) (es : List (List AV)) (id : Int) (rank : Int) (cost : Int) : evFin (cfg Try.prog tab 100000 (gk k26 30) noLsp 10 ([] : List Blk).length Try.f10.ntmps) ([] : List Blk).length Try.f10.resultTypes.toList Try.f10 [.agg [.int .i64 l, .sl .imm [.int .i64, .int .i64, .int .i64, .int .i64] es], .int .i64 id, .int .i64 rank, .int .i64 cost] [] = bif vev10_2 l es id rank cost then some (true, AV.tup [AV.agg [AV.int IntKind.i64 l, AV.sl Tk.imm [Kd.int IntKind.i64, Kd.int IntKind.i64, Kd.int IntKind.i64, Kd.int IntKind.i64] (vev10_0 l es id rank cost)], AV.int IntKind.i64 (vev10_1 l es id rank cost)], []) else none := by
  have h : evFin (cfg Try.prog tab 100000 (gk k26 30) noLsp 10 ([] : List Blk).length Try.f10.ntmps) ([] : List Blk).length Try.f10.resultTypes.toList Try.f10 [.agg [.int .i64 l, .sl .imm [.int .i64, .int .i64, .int .i64, .int .i64] es], .int .i64 id, .int .i64 rank, .int .i64 cost] [] = bif vev27_0 l Tk.imm es then bif vev24_1 l Tk.imm es then bif vev24_0 l Tk.imm es != (0 : Int) then some (true, AV.tup [AV.agg [AV.int IntKind.i64 l, AV.sl Tk.imm [Kd.int IntKind.i64, Kd.int IntKind.i64, Kd.int IntKind.i64, Kd.int IntKind.i64] es], AV.int IntKind.i64 (vev24_0 l Tk.imm es)], []) else bif !vev28_0 id rank cost (0 : Int) then some (true, AV.tup [AV.agg [AV.int IntKind.i64 l, AV.sl Tk.imm [Kd.int IntKind.i64, Kd.int IntKind.i64, Kd.int IntKind.i64, Kd.int IntKind.i64] es], AV.int IntKind.i64 (8 : Int)], []) else bif vev29_0 l Tk.imm es id then bif decide (vev36a_0 Tk.imm es id ≥ (0 : Int)) then some (true, AV.tup [AV.agg [AV.int IntKind.i64 l, AV.sl Tk.imm [Kd.int IntKind.i64, Kd.int IntKind.i64, Kd.int IntKind.i64, Kd.int IntKind.i64] es], AV.int IntKind.i64 (12 : Int)], []) else bif decide ((↑es.length : Int) ≥ (16 : Int)) then some (true, AV.tup [AV.agg [AV.int IntKind.i64 l, AV.sl Tk.imm [Kd.int IntKind.i64, Kd.int IntKind.i64, Kd.int IntKind.i64, Kd.int IntKind.i64] es], AV.int IntKind.i64 (7 : Int)], []) else bif bif decide ((es.length + (rev10_0 l es id rank cost).length) * (32 : Nat) ≤ (140737488355328 : Nat)) then decide (es.length + (rev10_0 l es id rank cost).length ≤ (9223372036854775807 : Nat)) else false then some (true, AV.tup [AV.agg [AV.int IntKind.i64 l, AV.sl Tk.imm [Kd.int IntKind.i64, Kd.int IntKind.i64, Kd.int IntKind.i64, Kd.int IntKind.i64] (es ++ rev10_0 l es id rank cost)], AV.int IntKind.i64 (0 : Int)], []) else none else none else none else none := by kernel_rfl
  rw [h]
  clear h
  unfold vev10_0 vev10_1 vev10_2
  generalize (decide ((es.length + (rev10_0 l es id rank cost).length) * (32 : Nat) ≤ (140737488355328 : Nat))) = c0
  generalize (decide (es.length + (rev10_0 l es id rank cost).length ≤ (9223372036854775807 : Nat))) = c1
  generalize (decide ((↑es.length : Int) ≥ (16 : Int))) = c2
  generalize (decide (vev36a_0 Tk.imm es id ≥ (0 : Int))) = c3
  generalize (vev24_0 l Tk.imm es != (0 : Int)) = c4
  generalize (!vev28_0 id rank cost (0 : Int)) = c5
  generalize (vev29_0 l Tk.imm es id) = c6
  generalize (vev27_0 l Tk.imm es) = c7
  generalize (vev24_1 l Tk.imm es) = c8
  cases c7
  · skip
    rfl
  · skip
    cases c8
    · skip
      rfl
    · skip
      cases c4
      · skip
        cases c5
        · skip
          cases c6
          · skip
            rfl
          · skip
            cases c3
            · skip
              cases c2
              · skip
                cases c0
                · skip
                  rfl
                · skip
                  cases c1
                  · skip
                    rfl
                  · skip
                    rfl
              · skip
                rfl
            · skip
              rfl
        · skip
          rfl
      · skip
        rfl
-- spec vev10_2 l es id rank cost ;; (true, AV.tup [AV.agg [AV.int IntKind.i64 l, AV.sl Tk.imm [Kd.int IntKind.i64, Kd.int IntKind.i64, Kd.int IntKind.i64, Kd.int IntKind.i64] (vev10_0 l es id rank cost)], AV.int IntKind.i64 (vev10_1 l es id rank cost)], [])
noncomputable def sp10 : List AV → List Blk → Option (Bool × AV × List Blk)
  | [.agg [.int .i64 l, .sl .imm [.int .i64, .int .i64, .int .i64, .int .i64] es], .int .i64 id, .int .i64 rank, .int .i64 cost], [] => spW (vev10_2 l es id rank cost) (some ((true, AV.tup [AV.agg [AV.int IntKind.i64 l, AV.sl Tk.imm [Kd.int IntKind.i64, Kd.int IntKind.i64, Kd.int IntKind.i64, Kd.int IntKind.i64] (vev10_0 l es id rank cost)], AV.int IntKind.i64 (vev10_1 l es id rank cost)], [])))
  | _, _ => none
noncomputable def k10 : Gam := fun f T C => match Nat.beq f 10 with
  | true => (sp10 T C).or (k26 f T C)
  | false => k26 f T C
theorem k10_ok : GamOK Try.prog k10 := by
  intro f T C r outs h
  unfold k10 at h
  cases hf : Nat.beq f 10 with
  | false => rw [hf] at h; exact k26_ok f T C r outs h
  | true =>
    have hf' := Nat.eq_of_beq_eq_true hf
    subst hf'
    rw [hf] at h
    dsimp only at h
    cases hs : sp10 T C with
    | none => rw [hs] at h; exact k26_ok _ T C r outs h
    | some x =>
      rw [hs] at h
      have hx : x = (true, r, outs) := by simpa using h
      subst hx
      unfold sp10 at hs
      split at hs
      · rename_i l es id rank cost
        obtain ⟨hb, rfl, rfl⟩ := spT_inv hs
        have he := ev10 l es id rank cost
        rw [hb, cond_true] at he
        obtain ⟨r0, o0, h0, he⟩ := evFin_inv he
        obtain ⟨h1, h2⟩ := fn_ok mixed plain (gk_ok k26_ok 30) Try.func10 (fun c _ => LoopsOK.none (fun _ _ => rfl) c) h0
        exact ⟨h1, h2.fin he⟩
      · cases hs
noncomputable def rev32_0 (es : List (List AV)) (i : Int) (j : Int) : List (List AV) := List.take (es.length - j.toNat) (List.drop j.toNat es)
noncomputable def rev32_1 (es : List (List AV)) (i : Int) (j : Int) : Int := (↑(i.toNat + (rev32_0 es i j).length) : Int)
noncomputable def rev32_2 (es : List (List AV)) (i : Int) (j : Int) : List (List AV) := List.take ((0 : Nat) + i.toNat) es ++ rev32_0 es i j ++ List.drop ((0 : Nat) + i.toNat + (rev32_0 es i j).length) es
theorem ev32 (es : List (List AV)) (i : Int) (j : Int) : evFin (cfg Try.prog tab 100000 (gk k10 30) noLsp 32 ([.row [.int .i64, .int .i64, .int .i64, .int .i64] es] : List Blk).length Try.f32.ntmps) ([.row [.int .i64, .int .i64, .int .i64, .int .i64] es] : List Blk).length Try.f32.resultTypes.toList Try.f32 [.rf 0 [.int .i64, .int .i64, .int .i64, .int .i64], .int .i64 i, .int .i64 j] [.row [.int .i64, .int .i64, .int .i64, .int .i64] es] = bif bnd i j (↑es.length : Int) && bnd j (↑es.length : Int) (↑es.length : Int) then bif i == j then some (true, AV.rf (nat_lit 0) [Kd.int IntKind.i64, Kd.int IntKind.i64, Kd.int IntKind.i64, Kd.int IntKind.i64], [Blk.row [Kd.int IntKind.i64, Kd.int IntKind.i64, Kd.int IntKind.i64, Kd.int IntKind.i64] es]) else bif bnd (0 : Int) i (↑es.length : Int) then bif bnd j (↑es.length : Int) (↑es.length : Int) then bif bif decide ((0 : Nat) + i.toNat + (rev32_0 es i j).length ≤ es.length) then bif decide (i.toNat + (rev32_0 es i j).length ≤ es.length) then bif decide ((i.toNat + (rev32_0 es i j).length) * (32 : Nat) ≤ (140737488355328 : Nat)) then decide (i.toNat + (rev32_0 es i j).length ≤ (9223372036854775807 : Nat)) else false else false else false then bif bnd (rev32_1 es i j) (↑es.length : Int) (↑es.length : Int) && decide ((0 : Nat) + (↑es.length : Int).toNat ≤ (rev32_2 es i j).length) then some (true, AV.rs (nat_lit 0) [Kd.int IntKind.i64, Kd.int IntKind.i64, Kd.int IntKind.i64, Kd.int IntKind.i64] (nat_lit 0) (i.toNat + (rev32_0 es i j).length) es.length, [Blk.row [Kd.int IntKind.i64, Kd.int IntKind.i64, Kd.int IntKind.i64, Kd.int IntKind.i64] (List.take ((rev32_1 es i j).toNat + (0 : Nat)) (rev32_2 es i j) ++ List.replicate ((↑es.length : Int).toNat - (rev32_1 es i j).toNat) (List.map v2a0 #[Value.int IntKind.i64 (0 : Int), Value.int IntKind.i64 (0 : Int), Value.int IntKind.i64 (0 : Int), Value.int IntKind.i64 (0 : Int)].toList) ++ List.drop ((rev32_1 es i j).toNat + (0 : Nat) + ((↑es.length : Int).toNat - (rev32_1 es i j).toNat)) (rev32_2 es i j))]) else none else none else none else none else none := by kernel_rfl
noncomputable def sp32 : List AV → List Blk → Option (Bool × AV × List Blk)
  | [.rf 0 [.int .i64, .int .i64, .int .i64, .int .i64], .int .i64 i, .int .i64 j], [.row [.int .i64, .int .i64, .int .i64, .int .i64] es] => some (decide (0 ≤ i) && (decide (i < j) && (decide (j ≤ (es.length : Int)) && decide (es.length * 32 ≤ 140737488355328))), .rs 0 [.int .i64, .int .i64, .int .i64, .int .i64] 0 (i.toNat + (es.length - j.toNat)) es.length, [.row [.int .i64, .int .i64, .int .i64, .int .i64] (es.take i.toNat ++ es.drop j.toNat ++ List.replicate (j.toNat - i.toNat) [.int .i64 0, .int .i64 0, .int .i64 0, .int .i64 0])])
  | _, _ => none
noncomputable def k32 : Gam := fun f T C => match Nat.beq f 32 with
  | true => (sp32 T C).or (k10 f T C)
  | false => k10 f T C
theorem k32_ok : GamOK Try.prog k32 := by
  intro f T C r outs h
  unfold k32 at h
  cases hf : Nat.beq f 32 with
  | false => rw [hf] at h; exact k10_ok f T C r outs h
  | true =>
    have hf' := Nat.eq_of_beq_eq_true hf
    subst hf'
    rw [hf] at h
    dsimp only at h
    cases hs : sp32 T C with
    | none => rw [hs] at h; exact k10_ok _ T C r outs h
    | some x =>
      rw [hs] at h
      have hx : x = (true, r, outs) := by simpa using h
      subst hx
      unfold sp32 at hs
      split at hs
      · rename_i i j es
        injection hs with hs
        injection hs with hb hs
        injection hs with e1 e2
        subst e1 e2
        simp only [Bool.and_eq_true, decide_eq_true_eq] at hb
        obtain ⟨h0, hij, hj, hm⟩ := hb
        have he := ev32 es i j
        have a0 : rev32_0 es i j = es.drop j.toNat := by
          unfold rev32_0
          rw [List.take_of_length_le (by rw [List.length_drop]; omega)]
        have l0 : (es.drop j.toNat).length = es.length - j.toNat := List.length_drop ..
        have a1 : rev32_1 es i j = ((i.toNat + (es.length - j.toNat) : Nat) : Int) := by unfold rev32_1; rw [a0, l0]
        have a2 : rev32_2 es i j = (es.take i.toNat ++ es.drop j.toNat) ++ es.drop (i.toNat + (es.length - j.toNat)) := by unfold rev32_2; rw [a0, l0, Nat.zero_add]
        have l2 : (es.take i.toNat ++ es.drop j.toNat).length = i.toNat + (es.length - j.toNat) := by rw [List.length_append, List.length_take, l0]; omega
        have l3 : (rev32_2 es i j).length = es.length := by rw [a2, List.length_append, l2, List.length_drop]; omega
        rw [show (bnd i j (es.length : Int) && bnd j (es.length : Int) (es.length : Int)) = true from by simp [bnd]; omega, cond_true,
          show (i == j) = false from by simp; omega, cond_false,
          show bnd 0 i (es.length : Int) = true from by simp [bnd]; omega, cond_true,
          show bnd j (es.length : Int) (es.length : Int) = true from by simp [bnd]; omega, cond_true,
          a0, l0, a1, l3, decide_eq_true (show 0 + i.toNat + (es.length - j.toNat) ≤ es.length by omega), cond_true, decide_eq_true (show i.toNat + (es.length - j.toNat) ≤ es.length by omega), cond_true,
          decide_eq_true (show (i.toNat + (es.length - j.toNat)) * 32 ≤ 140737488355328 by omega), cond_true, decide_eq_true (show i.toNat + (es.length - j.toNat) ≤ 9223372036854775807 by omega), cond_true,
          show (bnd ((i.toNat + (es.length - j.toNat) : Nat) : Int) (es.length : Int) (es.length : Int) && decide (0 + (es.length : Int).toNat ≤ es.length)) = true from by simp [bnd]; omega, cond_true,
          Int.toNat_natCast, Int.toNat_natCast, Nat.add_zero, a2, List.take_left' l2, show es.length - (i.toNat + (es.length - j.toNat)) = j.toNat - i.toNat by omega,
          List.drop_of_length_le (l := es.take i.toNat ++ es.drop j.toNat ++ es.drop (i.toNat + (es.length - j.toNat))) (by rw [List.length_append, l2, List.length_drop]; omega), List.append_nil] at he
        obtain ⟨r0, o0, h0, he⟩ := evFin_inv he
        obtain ⟨h1, h2⟩ := fn_ok mixed plain (gk_ok k10_ok 30) Try.func32 (fun c _ => LoopsOK.none (fun _ _ => rfl) c) h0
        exact ⟨h1, h2.fin he⟩
      · cases hs
noncomputable def rev12_0 (l : Int) (es : List (List AV)) (id : Int) : Int := IntKind.i64.wrap (vev36a_0 Tk.lent es id + (1 : Int))
noncomputable def vev12_0 (l : Int) (es : List (List AV)) (id : Int) : List (List AV) := bif bif decide (vev36a_0 Tk.lent es id < (0 : Int)) then true else bif vev24_1 l Tk.imm es then vev24_0 l Tk.imm es != (0 : Int) else false then es else List.take (Int.toNat (vev36a_0 Tk.lent es id) + (es.length - (rev12_0 l es id).toNat)) (List.drop (0 : Nat) (List.take (Int.toNat (vev36a_0 Tk.lent es id)) es ++ List.drop (rev12_0 l es id).toNat es ++ List.replicate ((rev12_0 l es id).toNat - Int.toNat (vev36a_0 Tk.lent es id)) [AV.int IntKind.i64 (0 : Int), AV.int IntKind.i64 (0 : Int), AV.int IntKind.i64 (0 : Int), AV.int IntKind.i64 (0 : Int)]))
noncomputable def vev12_1 (l : Int) (es : List (List AV)) (id : Int) : Bool := bif bif decide (vev36a_0 Tk.lent es id < (0 : Int)) then true else bif vev24_1 l Tk.imm es then vev24_0 l Tk.imm es != (0 : Int) else false then false else true
noncomputable def vev12_2 (l : Int) (es : List (List AV)) (id : Int) : Bool := bif vev27_0 l Tk.imm es then bif vev29_0 l Tk.lent es id then bif bif decide (vev36a_0 Tk.lent es id < (0 : Int)) then true else vev24_1 l Tk.imm es then bif bif decide (vev36a_0 Tk.lent es id < (0 : Int)) then true else bif vev24_1 l Tk.imm es then vev24_0 l Tk.imm es != (0 : Int) else false then true else bif decide ((0 : Int) ≤ vev36a_0 Tk.lent es id) && (decide (vev36a_0 Tk.lent es id < rev12_0 l es id) && (decide (rev12_0 l es id ≤ (↑es.length : Int)) && decide (es.length * (32 : Nat) ≤ (140737488355328 : Nat)))) then true else false else false else false else false
theorem ev12 (l : Int) (es : List (List AV)) (id : Int) : evFin (cfg Try.prog tab 100000 (gk k32 30) noLsp 12 ([] : List Blk).length Try.f12.ntmps) ([] : List Blk).length Try.f12.resultTypes.toList Try.f12 [.agg [.int .i64 l, .sl .imm [.int .i64, .int .i64, .int .i64, .int .i64] es], .int .i64 id] [] = bif vev12_2 l es id then some (true, AV.tup [AV.agg [AV.int IntKind.i64 l, AV.sl Tk.imm [Kd.int IntKind.i64, Kd.int IntKind.i64, Kd.int IntKind.i64, Kd.int IntKind.i64] (vev12_0 l es id)], AV.bool (vev12_1 l es id)], []) else none := by
  have h : evFin (cfg Try.prog tab 100000 (gk k32 30) noLsp 12 ([] : List Blk).length Try.f12.ntmps) ([] : List Blk).length Try.f12.resultTypes.toList Try.f12 [.agg [.int .i64 l, .sl .imm [.int .i64, .int .i64, .int .i64, .int .i64] es], .int .i64 id] [] = bif vev27_0 l Tk.imm es then bif vev29_0 l Tk.lent es id then bif bif decide (vev36a_0 Tk.lent es id < (0 : Int)) then true else bif vev24_1 l Tk.imm es then true else false then bif bif decide (vev36a_0 Tk.lent es id < (0 : Int)) then true else bif vev24_1 l Tk.imm es then bif false then true else vev24_0 l Tk.imm es != (0 : Int) else false then some (true, AV.tup [AV.agg [AV.int IntKind.i64 l, AV.sl Tk.imm [Kd.int IntKind.i64, Kd.int IntKind.i64, Kd.int IntKind.i64, Kd.int IntKind.i64] es], AV.bool false], []) else bif decide ((0 : Int) ≤ vev36a_0 Tk.lent es id) && (decide (vev36a_0 Tk.lent es id < rev12_0 l es id) && (decide (rev12_0 l es id ≤ (↑es.length : Int)) && decide (es.length * (32 : Nat) ≤ (140737488355328 : Nat)))) then some (true, AV.tup [AV.agg [AV.int IntKind.i64 l, AV.sl Tk.imm [Kd.int IntKind.i64, Kd.int IntKind.i64, Kd.int IntKind.i64, Kd.int IntKind.i64] (List.take (Int.toNat (vev36a_0 Tk.lent es id) + (es.length - (rev12_0 l es id).toNat)) (List.drop (0 : Nat) (List.take (Int.toNat (vev36a_0 Tk.lent es id)) es ++ List.drop (rev12_0 l es id).toNat es ++ List.replicate ((rev12_0 l es id).toNat - Int.toNat (vev36a_0 Tk.lent es id)) [AV.int IntKind.i64 (0 : Int), AV.int IntKind.i64 (0 : Int), AV.int IntKind.i64 (0 : Int), AV.int IntKind.i64 (0 : Int)])))], AV.bool true], []) else none else none else none else none := by kernel_rfl
  rw [h]
  clear h
  unfold vev12_0 vev12_1 vev12_2
  generalize (decide ((0 : Int) ≤ vev36a_0 Tk.lent es id) && (decide (vev36a_0 Tk.lent es id < rev12_0 l es id) && (decide (rev12_0 l es id ≤ (↑es.length : Int)) && decide (es.length * (32 : Nat) ≤ (140737488355328 : Nat))))) = c0
  generalize (decide (vev36a_0 Tk.lent es id < (0 : Int))) = c1
  generalize (vev24_0 l Tk.imm es != (0 : Int)) = c2
  generalize (vev29_0 l Tk.lent es id) = c3
  generalize (vev27_0 l Tk.imm es) = c4
  generalize (vev24_1 l Tk.imm es) = c5
  cases c4
  · skip
    rfl
  · skip
    cases c3
    · skip
      rfl
    · skip
      cases c1
      · skip
        cases c5
        · skip
          rfl
        · skip
          cases c2
          · skip
            cases c0
            · skip
              rfl
            · skip
              rfl
          · skip
            rfl
      · skip
        rfl
-- spec vev12_2 l es id ;; (true, AV.tup [AV.agg [AV.int IntKind.i64 l, AV.sl Tk.imm [Kd.int IntKind.i64, Kd.int IntKind.i64, Kd.int IntKind.i64, Kd.int IntKind.i64] (vev12_0 l es id)], AV.bool (vev12_1 l es id)], [])
noncomputable def sp12 : List AV → List Blk → Option (Bool × AV × List Blk)
  | [.agg [.int .i64 l, .sl .imm [.int .i64, .int .i64, .int .i64, .int .i64] es], .int .i64 id], [] => spW (vev12_2 l es id) (some ((true, AV.tup [AV.agg [AV.int IntKind.i64 l, AV.sl Tk.imm [Kd.int IntKind.i64, Kd.int IntKind.i64, Kd.int IntKind.i64, Kd.int IntKind.i64] (vev12_0 l es id)], AV.bool (vev12_1 l es id)], [])))
  | _, _ => none
noncomputable def k12 : Gam := fun f T C => match Nat.beq f 12 with
  | true => (sp12 T C).or (k32 f T C)
  | false => k32 f T C
theorem k12_ok : GamOK Try.prog k12 := by
  intro f T C r outs h
  unfold k12 at h
  cases hf : Nat.beq f 12 with
  | false => rw [hf] at h; exact k32_ok f T C r outs h
  | true =>
    have hf' := Nat.eq_of_beq_eq_true hf
    subst hf'
    rw [hf] at h
    dsimp only at h
    cases hs : sp12 T C with
    | none => rw [hs] at h; exact k32_ok _ T C r outs h
    | some x =>
      rw [hs] at h
      have hx : x = (true, r, outs) := by simpa using h
      subst hx
      unfold sp12 at hs
      split at hs
      · rename_i l es id
        obtain ⟨hb, rfl, rfl⟩ := spT_inv hs
        have he := ev12 l es id
        rw [hb, cond_true] at he
        obtain ⟨r0, o0, h0, he⟩ := evFin_inv he
        obtain ⟨h1, h2⟩ := fn_ok mixed plain (gk_ok k32_ok 30) Try.func12 (fun c _ => LoopsOK.none (fun _ _ => rfl) c) h0
        exact ⟨h1, h2.fin he⟩
      · cases hs
noncomputable def rn14_5_0 (t1 : Int) (t8 : Int) (t24 : Int) (t25 : Int) (b2_0 : Int) (b4_0 : Int) (b5_0 : Int) (b5_1 : Int) (b5_2 : Int) (b5_3 : Int) (b6 : List (List AV)) : Int := IntKind.i64.wrap (intOf ((b6.getD t25.toNat []).getD ((0 : Nat) + (1 : Nat) + (1 : Nat) + (1 : Nat)) AV.junk) + (1 : Int))
noncomputable def go14_5 (t1 : Int) (t8 : Int) (t24 : Int) (t25 : Int) (b2_0 : Int) (b4_0 : Int) (b5_0 : Int) (b5_1 : Int) (b5_2 : Int) (b5_3 : Int) (b6 : List (List AV)) : Bool := bif decide (t25 < t24) then decide ((0 : Int) ≤ t25) && decide (t25 < (↑b6.length : Int)) else false
noncomputable def nx14_5_3 (t1 : Int) (t8 : Int) (t24 : Int) (t25 : Int) (b2_0 : Int) (b4_0 : Int) (b5_0 : Int) (b5_1 : Int) (b5_2 : Int) (b5_3 : Int) (b6 : List (List AV)) : Int := IntKind.i64.wrap (t25 + (1 : Int))
noncomputable def nx14_5_10 (t1 : Int) (t8 : Int) (t24 : Int) (t25 : Int) (b2_0 : Int) (b4_0 : Int) (b5_0 : Int) (b5_1 : Int) (b5_2 : Int) (b5_3 : Int) (b6 : List (List AV)) : List (List AV) := b6.set t25.toNat [AV.int IntKind.i64 (intOf ((b6.getD t25.toNat []).getD (0 : Nat) AV.junk)), AV.int IntKind.i64 (intOf ((b6.getD t25.toNat []).getD ((0 : Nat) + (1 : Nat)) AV.junk)), AV.int IntKind.i64 (intOf ((b6.getD t25.toNat []).getD ((0 : Nat) + (1 : Nat) + (1 : Nat)) AV.junk)), AV.int IntKind.i64 (if if false = true then rn14_5_0 t1 t8 t24 t25 b2_0 b4_0 b5_0 b5_1 b5_2 b5_3 b6 < (2000 : Int) else (2000 : Int) < rn14_5_0 t1 t8 t24 t25 b2_0 b4_0 b5_0 b5_1 b5_2 b5_3 b6 then (2000 : Int) else rn14_5_0 t1 t8 t24 t25 b2_0 b4_0 b5_0 b5_1 b5_2 b5_3 b6)]
noncomputable def xc14_5_0 (t1 : Int) (t8 : Int) (t24 : Int) (t25 : Int) (b2_0 : Int) (b4_0 : Int) (b5_0 : Int) (b5_1 : Int) (b5_2 : Int) (b5_3 : Int) (b6 : List (List AV)) : Bool := bif decide (t25 < t24) then false else true
theorem rd14_5 (rest : Lsp) (t1 : Int) (t8 : Int) (t24 : Int) (t25 : Int) (b2_0 : Int) (b4_0 : Int) (b5_0 : Int) (b5_1 : Int) (b5_2 : Int) (b5_3 : Int) (b6 : List (List AV)) : roundV (cfg Try.prog tab 100000 (gk k12 30) rest 14 0 Try.f14.ntmps) (loopAt Try.f14 5) [1, 4, 5, 7, 8, 24, 25] [1, 2, 4, 5, 6] [1, 4, 5, 7, 8] [1, 2, 4, 5, 6] [AV.int IntKind.i64 t1, AV.hp (nat_lit 4) (nat_lit 0), AV.hp (nat_lit 5) (nat_lit 0), AV.hp (nat_lit 2) (nat_lit 0), AV.int IntKind.i64 t8, AV.int IntKind.i64 t24, AV.int IntKind.i64 t25] [Blk.dead, Blk.var [AV.int IntKind.i64 b2_0, AV.rf (nat_lit 6) [Kd.int IntKind.i64, Kd.int IntKind.i64, Kd.int IntKind.i64, Kd.int IntKind.i64]], Blk.var [AV.int IntKind.i64 b4_0, AV.nil], Blk.var [AV.int IntKind.i64 b5_0, AV.int IntKind.i64 b5_1, AV.int IntKind.i64 b5_2, AV.int IntKind.i64 b5_3], Blk.row [Kd.int IntKind.i64, Kd.int IntKind.i64, Kd.int IntKind.i64, Kd.int IntKind.i64] b6] = bif go14_5 t1 t8 t24 t25 b2_0 b4_0 b5_0 b5_1 b5_2 b5_3 b6 then some (Ex.norm, [AV.int IntKind.i64 t1, AV.hp (nat_lit 4) (nat_lit 0), AV.hp (nat_lit 5) (nat_lit 0), AV.hp (nat_lit 2) (nat_lit 0), AV.int IntKind.i64 t8, AV.int IntKind.i64 t24, AV.int IntKind.i64 (nx14_5_3 t1 t8 t24 t25 b2_0 b4_0 b5_0 b5_1 b5_2 b5_3 b6)], [Blk.dead, Blk.var [AV.int IntKind.i64 b2_0, AV.rf (nat_lit 6) [Kd.int IntKind.i64, Kd.int IntKind.i64, Kd.int IntKind.i64, Kd.int IntKind.i64]], Blk.var [AV.int IntKind.i64 b4_0, AV.nil], Blk.var [AV.int IntKind.i64 b5_0, AV.int IntKind.i64 b5_1, AV.int IntKind.i64 b5_2, AV.int IntKind.i64 b5_3], Blk.row [Kd.int IntKind.i64, Kd.int IntKind.i64, Kd.int IntKind.i64, Kd.int IntKind.i64] (nx14_5_10 t1 t8 t24 t25 b2_0 b4_0 b5_0 b5_1 b5_2 b5_3 b6)]) else bif xc14_5_0 t1 t8 t24 t25 b2_0 b4_0 b5_0 b5_1 b5_2 b5_3 b6 then some (Ex.exit (nat_lit 0), [AV.int IntKind.i64 t1, AV.hp (nat_lit 4) (nat_lit 0), AV.hp (nat_lit 5) (nat_lit 0), AV.hp (nat_lit 2) (nat_lit 0), AV.int IntKind.i64 t8], [Blk.dead, Blk.var [AV.int IntKind.i64 b2_0, AV.rf (nat_lit 6) [Kd.int IntKind.i64, Kd.int IntKind.i64, Kd.int IntKind.i64, Kd.int IntKind.i64]], Blk.var [AV.int IntKind.i64 b4_0, AV.nil], Blk.var [AV.int IntKind.i64 b5_0, AV.int IntKind.i64 b5_1, AV.int IntKind.i64 b5_2, AV.int IntKind.i64 b5_3], Blk.row [Kd.int IntKind.i64, Kd.int IntKind.i64, Kd.int IntKind.i64, Kd.int IntKind.i64] b6]) else none := by
  have h : roundV (cfg Try.prog tab 100000 (gk k12 30) rest 14 0 Try.f14.ntmps) (loopAt Try.f14 5) [1, 4, 5, 7, 8, 24, 25] [1, 2, 4, 5, 6] [1, 4, 5, 7, 8] [1, 2, 4, 5, 6] [AV.int IntKind.i64 t1, AV.hp (nat_lit 4) (nat_lit 0), AV.hp (nat_lit 5) (nat_lit 0), AV.hp (nat_lit 2) (nat_lit 0), AV.int IntKind.i64 t8, AV.int IntKind.i64 t24, AV.int IntKind.i64 t25] [Blk.dead, Blk.var [AV.int IntKind.i64 b2_0, AV.rf (nat_lit 6) [Kd.int IntKind.i64, Kd.int IntKind.i64, Kd.int IntKind.i64, Kd.int IntKind.i64]], Blk.var [AV.int IntKind.i64 b4_0, AV.nil], Blk.var [AV.int IntKind.i64 b5_0, AV.int IntKind.i64 b5_1, AV.int IntKind.i64 b5_2, AV.int IntKind.i64 b5_3], Blk.row [Kd.int IntKind.i64, Kd.int IntKind.i64, Kd.int IntKind.i64, Kd.int IntKind.i64] b6] = bif decide (t25 < t24) then bif decide ((0 : Int) ≤ t25) && decide (t25 < (↑b6.length : Int)) then bif decide ((0 : Int) ≤ t25) && decide (t25 < (↑b6.length : Int)) then some (Ex.norm, [AV.int IntKind.i64 t1, AV.hp (nat_lit 4) (nat_lit 0), AV.hp (nat_lit 5) (nat_lit 0), AV.hp (nat_lit 2) (nat_lit 0), AV.int IntKind.i64 t8, AV.int IntKind.i64 t24, AV.int IntKind.i64 (IntKind.i64.wrap (t25 + (1 : Int)))], [Blk.dead, Blk.var [AV.int IntKind.i64 b2_0, AV.rf (nat_lit 6) [Kd.int IntKind.i64, Kd.int IntKind.i64, Kd.int IntKind.i64, Kd.int IntKind.i64]], Blk.var [AV.int IntKind.i64 b4_0, AV.nil], Blk.var [AV.int IntKind.i64 b5_0, AV.int IntKind.i64 b5_1, AV.int IntKind.i64 b5_2, AV.int IntKind.i64 b5_3], Blk.row [Kd.int IntKind.i64, Kd.int IntKind.i64, Kd.int IntKind.i64, Kd.int IntKind.i64] (b6.set t25.toNat [AV.int IntKind.i64 (intOf ((b6.getD t25.toNat []).getD (0 : Nat) AV.junk)), AV.int IntKind.i64 (intOf ((b6.getD t25.toNat []).getD ((0 : Nat) + (1 : Nat)) AV.junk)), AV.int IntKind.i64 (intOf ((b6.getD t25.toNat []).getD ((0 : Nat) + (1 : Nat) + (1 : Nat)) AV.junk)), AV.int IntKind.i64 (if if false = true then rn14_5_0 t1 t8 t24 t25 b2_0 b4_0 b5_0 b5_1 b5_2 b5_3 b6 < (2000 : Int) else (2000 : Int) < rn14_5_0 t1 t8 t24 t25 b2_0 b4_0 b5_0 b5_1 b5_2 b5_3 b6 then (2000 : Int) else rn14_5_0 t1 t8 t24 t25 b2_0 b4_0 b5_0 b5_1 b5_2 b5_3 b6)])]) else none else none else some (Ex.exit (nat_lit 0), [AV.int IntKind.i64 t1, AV.hp (nat_lit 4) (nat_lit 0), AV.hp (nat_lit 5) (nat_lit 0), AV.hp (nat_lit 2) (nat_lit 0), AV.int IntKind.i64 t8], [Blk.dead, Blk.var [AV.int IntKind.i64 b2_0, AV.rf (nat_lit 6) [Kd.int IntKind.i64, Kd.int IntKind.i64, Kd.int IntKind.i64, Kd.int IntKind.i64]], Blk.var [AV.int IntKind.i64 b4_0, AV.nil], Blk.var [AV.int IntKind.i64 b5_0, AV.int IntKind.i64 b5_1, AV.int IntKind.i64 b5_2, AV.int IntKind.i64 b5_3], Blk.row [Kd.int IntKind.i64, Kd.int IntKind.i64, Kd.int IntKind.i64, Kd.int IntKind.i64] b6]) := by kernel_rfl
  rw [h]
  clear h
  unfold go14_5 nx14_5_3 nx14_5_10 xc14_5_0
  generalize (decide ((0 : Int) ≤ t25) && decide (t25 < (↑b6.length : Int))) = c0
  generalize (decide (t25 < t24)) = c1
  cases c1
  · skip
    rfl
  · skip
    cases c0
    · skip
      rfl
    · skip
      rfl
abbrev pl14_5 : Type := Int × Int × Int × Int × Int × Int × Int × Int × Int
abbrev sl14_5 : Type := Int × (List (List AV))
noncomputable def vt14_5 (a : pl14_5 × sl14_5) : List AV := [AV.int IntKind.i64 a.1.1, AV.hp (nat_lit 4) (nat_lit 0), AV.hp (nat_lit 5) (nat_lit 0), AV.hp (nat_lit 2) (nat_lit 0), AV.int IntKind.i64 a.1.2.1, AV.int IntKind.i64 a.1.2.2.1, AV.int IntKind.i64 a.2.1]
noncomputable def vc14_5 (a : pl14_5 × sl14_5) : List Blk := [Blk.dead, Blk.var [AV.int IntKind.i64 a.1.2.2.2.1, AV.rf (nat_lit 6) [Kd.int IntKind.i64, Kd.int IntKind.i64, Kd.int IntKind.i64, Kd.int IntKind.i64]], Blk.var [AV.int IntKind.i64 a.1.2.2.2.2.1, AV.nil], Blk.var [AV.int IntKind.i64 a.1.2.2.2.2.2.1, AV.int IntKind.i64 a.1.2.2.2.2.2.2.1, AV.int IntKind.i64 a.1.2.2.2.2.2.2.2.1, AV.int IntKind.i64 a.1.2.2.2.2.2.2.2.2], Blk.row [Kd.int IntKind.i64, Kd.int IntKind.i64, Kd.int IntKind.i64, Kd.int IntKind.i64] a.2.2]
noncomputable def de14_5 (vt : List AV) (vc : List Blk) : Option (pl14_5 × sl14_5) :=
  match vt with
  | [qa0, qa1, qa2, qa3, qa4, qa5, qa6] => (match vc with
  | [qb0, qb1, qb2, qb3, qb4] => (match qa0 with
  | AV.int IntKind.i64 t1 => (match qa1 with
  | AV.hp (4) (0) => (match qa2 with
  | AV.hp (5) (0) => (match qa3 with
  | AV.hp (2) (0) => (match qa4 with
  | AV.int IntKind.i64 t8 => (match qa5 with
  | AV.int IntKind.i64 t24 => (match qa6 with
  | AV.int IntKind.i64 t25 => (match qb0 with
  | Blk.dead => (match qb1 with
  | Blk.var [AV.int IntKind.i64 b2_0, AV.rf (6) [Kd.int IntKind.i64, Kd.int IntKind.i64, Kd.int IntKind.i64, Kd.int IntKind.i64]] => (match qb2 with
  | Blk.var [AV.int IntKind.i64 b4_0, AV.nil] => (match qb3 with
  | Blk.var [AV.int IntKind.i64 b5_0, AV.int IntKind.i64 b5_1, AV.int IntKind.i64 b5_2, AV.int IntKind.i64 b5_3] => (match qb4 with
  | Blk.row [Kd.int IntKind.i64, Kd.int IntKind.i64, Kd.int IntKind.i64, Kd.int IntKind.i64] b6 => (some ((t1, t8, t24, b2_0, b4_0, b5_0, b5_1, b5_2, b5_3), (t25, b6)))
  | _ => none)
  | _ => none)
  | _ => none)
  | _ => none)
  | _ => none)
  | _ => none)
  | _ => none)
  | _ => none)
  | _ => none)
  | _ => none)
  | _ => none)
  | _ => none)
  | _ => none)
  | _ => none
theorem de14_5_ok (vt : List AV) (vc : List Blk) (a : pl14_5 × sl14_5) (h : de14_5 vt vc = some a) : vt = vt14_5 a ∧ vc = vc14_5 a := by
  unfold de14_5 at h
  split at h
  rotate_left
  · cases h
  split at h
  rotate_left
  · cases h
  split at h
  rotate_left
  · cases h
  split at h
  rotate_left
  · cases h
  split at h
  rotate_left
  · cases h
  split at h
  rotate_left
  · cases h
  split at h
  rotate_left
  · cases h
  split at h
  rotate_left
  · cases h
  split at h
  rotate_left
  · cases h
  split at h
  rotate_left
  · cases h
  split at h
  rotate_left
  · cases h
  split at h
  rotate_left
  · cases h
  split at h
  rotate_left
  · cases h
  split at h
  rotate_left
  · cases h
  injection h with h
  subst h
  exact ⟨rfl, rfl⟩
noncomputable def g14_5 (p : pl14_5) (s : sl14_5) : Bool := go14_5 p.1 p.2.1 p.2.2.1 s.1 p.2.2.2.1 p.2.2.2.2.1 p.2.2.2.2.2.1 p.2.2.2.2.2.2.1 p.2.2.2.2.2.2.2.1 p.2.2.2.2.2.2.2.2 s.2
noncomputable def n14_5 (p : pl14_5) (s : sl14_5) : sl14_5 := (nx14_5_3 p.1 p.2.1 p.2.2.1 s.1 p.2.2.2.1 p.2.2.2.2.1 p.2.2.2.2.2.1 p.2.2.2.2.2.2.1 p.2.2.2.2.2.2.2.1 p.2.2.2.2.2.2.2.2 s.2, nx14_5_10 p.1 p.2.1 p.2.2.1 s.1 p.2.2.2.1 p.2.2.2.2.1 p.2.2.2.2.2.1 p.2.2.2.2.2.2.1 p.2.2.2.2.2.2.2.1 p.2.2.2.2.2.2.2.2 s.2)
noncomputable def y14_5 (p : pl14_5) (s : sl14_5) : List (Bool × Out) := []
noncomputable def z14_5 (p : pl14_5) (s : sl14_5) : Bool := xc14_5_0 p.1 p.2.1 p.2.2.1 s.1 p.2.2.2.1 p.2.2.2.2.1 p.2.2.2.2.2.1 p.2.2.2.2.2.2.1 p.2.2.2.2.2.2.2.1 p.2.2.2.2.2.2.2.2 s.2
noncomputable def d14_5 (p : pl14_5) (s : sl14_5) : Out := (Ex.exit (nat_lit 0), [AV.int IntKind.i64 p.1, AV.hp (nat_lit 4) (nat_lit 0), AV.hp (nat_lit 5) (nat_lit 0), AV.hp (nat_lit 2) (nat_lit 0), AV.int IntKind.i64 p.2.1], [Blk.dead, Blk.var [AV.int IntKind.i64 p.2.2.2.1, AV.rf (nat_lit 6) [Kd.int IntKind.i64, Kd.int IntKind.i64, Kd.int IntKind.i64, Kd.int IntKind.i64]], Blk.var [AV.int IntKind.i64 p.2.2.2.2.1, AV.nil], Blk.var [AV.int IntKind.i64 p.2.2.2.2.2.1, AV.int IntKind.i64 p.2.2.2.2.2.2.1, AV.int IntKind.i64 p.2.2.2.2.2.2.2.1, AV.int IntKind.i64 p.2.2.2.2.2.2.2.2], Blk.row [Kd.int IntKind.i64, Kd.int IntKind.i64, Kd.int IntKind.i64, Kd.int IntKind.i64] s.2])
noncomputable def ls14_5 : St → Option (Bool × List (Bool × Ex × St) × Ex × St) := lspOf [1, 4, 5, 7, 8, 24, 25] [1, 2, 4, 5, 6] [1, 4, 5, 7, 8] [1, 2, 4, 5, 6] Try.f14.ntmps (0 + tab.nid 14) de14_5 (spI g14_5 n14_5 y14_5 z14_5 d14_5)
theorem lo14_5 (rest : Lsp) : LoopOK1 (cfg Try.prog tab 100000 (gk k12 30) (selL 5 ls14_5 rest) 14 0 Try.f14.ntmps) (loopAt Try.f14 5) := LoopOK1.iter (i := 5) (by kernel_rfl) [1, 4, 5, 7, 8, 24, 25] [1, 2, 4, 5, 6] [1, 4, 5, 7, 8] [1, 2, 4, 5, 6] vt14_5 vc14_5 de14_5 g14_5 n14_5 y14_5 z14_5 d14_5 (fun _ => rfl) de14_5_ok (fun p s => rd14_5 (selL 5 ls14_5 rest) (p.1) (p.2.1) (p.2.2.1) (s.1) (p.2.2.2.1) (p.2.2.2.2.1) (p.2.2.2.2.2.1) (p.2.2.2.2.2.2.1) (p.2.2.2.2.2.2.2.1) (p.2.2.2.2.2.2.2.2) (s.2)) (fun _ _ => rfl)
noncomputable def lsp14 : Lsp := (selL 5 ls14_5 noLsp)
theorem loops14 : ∀ c, Try.f14.body = some c → LoopsOK (cfg Try.prog tab 100000 (gk k12 30) lsp14 14 0 Try.f14.ntmps) c := loops_of [5] (by kernel_rfl) (by kernel_rfl) (fun i hi => by
  simp only [List.mem_cons, List.not_mem_nil, or_false] at hi
  subst hi
  · exact lo14_5 noLsp)
noncomputable def rev14_0 (l : Int) (es : List (List AV)) (quantum : Int) : sl14_5 := finL (g14_5 (quantum, vev20_0 l Tk.imm es, vev20_0 l Tk.imm es, l, (0 : Int), (0 : Int), (0 : Int), (0 : Int), (0 : Int))) (n14_5 (quantum, vev20_0 l Tk.imm es, vev20_0 l Tk.imm es, l, (0 : Int), (0 : Int), (0 : Int), (0 : Int), (0 : Int))) ((0 : Int), es)
noncomputable def rev14_1 (l : Int) (es : List (List AV)) (quantum : Int) : List (List AV) := (rev14_0 l es quantum).snd
noncomputable def rev14_2 (l : Int) (es : List (List AV)) (quantum : Int) : Int := (↑(rev14_1 l es quantum).length : Int)
noncomputable def rev14_3 (l : Int) (es : List (List AV)) (quantum : Int) : Int := intOf (((rev14_1 l es quantum).getD (vev20_0 l Tk.imm es).toNat []).getD ((0 : Nat) + (1 : Nat) + (1 : Nat)) AV.junk)
noncomputable def rev14_4 (l : Int) (es : List (List AV)) (quantum : Int) : Int := if if false = true then rev14_3 l es quantum < quantum else quantum < rev14_3 l es quantum then quantum else rev14_3 l es quantum
noncomputable def rev14_5 (l : Int) (es : List (List AV)) (quantum : Int) : List (List AV) := (rev14_1 l es quantum).set (vev20_0 l Tk.imm es).toNat [AV.int IntKind.i64 (intOf (((rev14_1 l es quantum).getD (vev20_0 l Tk.imm es).toNat []).getD (0 : Nat) AV.junk)), AV.int IntKind.i64 (intOf (((rev14_1 l es quantum).getD (vev20_0 l Tk.imm es).toNat []).getD ((0 : Nat) + (1 : Nat)) AV.junk)), AV.int IntKind.i64 (IntKind.i64.wrap (rev14_3 l es quantum - rev14_4 l es quantum)), AV.int IntKind.i64 (intOf (((rev14_1 l es quantum).getD (vev20_0 l Tk.imm es).toNat []).getD ((0 : Nat) + (1 : Nat) + (1 : Nat) + (1 : Nat)) AV.junk))]
noncomputable def rev14_6 (l : Int) (es : List (List AV)) (quantum : Int) : Int := (↑(rev14_5 l es quantum).length : Int)
noncomputable def rev14_7 (l : Int) (es : List (List AV)) (quantum : Int) : Int := intOf (((rev14_5 l es quantum).getD (vev20_0 l Tk.imm es).toNat []).getD ((0 : Nat) + (1 : Nat) + (1 : Nat)) AV.junk)
noncomputable def rev14_8 (l : Int) (es : List (List AV)) (quantum : Int) : Int := IntKind.i64.wrap (vev20_0 l Tk.imm es + (1 : Int))
noncomputable def vev14_0 (l : Int) (es : List (List AV)) (quantum : Int) : List (List AV) := bif bif decide (vev20_0 l Tk.imm es < (0 : Int)) then true else decide (quantum < (1 : Int)) then es else bif decide (rev14_7 l es quantum = (0 : Int)) then List.take ((vev20_0 l Tk.imm es).toNat + ((rev14_5 l es quantum).length - (rev14_8 l es quantum).toNat)) (List.drop (0 : Nat) (List.take (vev20_0 l Tk.imm es).toNat (rev14_5 l es quantum) ++ List.drop (rev14_8 l es quantum).toNat (rev14_5 l es quantum) ++ List.replicate ((rev14_8 l es quantum).toNat - (vev20_0 l Tk.imm es).toNat) [AV.int IntKind.i64 (0 : Int), AV.int IntKind.i64 (0 : Int), AV.int IntKind.i64 (0 : Int), AV.int IntKind.i64 (0 : Int)])) else rev14_5 l es quantum
noncomputable def vev14_1 (l : Int) (es : List (List AV)) (quantum : Int) : Int := bif bif decide (vev20_0 l Tk.imm es < (0 : Int)) then true else decide (quantum < (1 : Int)) then (0 : Int) else intOf (((rev14_5 l es quantum).getD (vev20_0 l Tk.imm es).toNat []).getD (0 : Nat) AV.junk)
noncomputable def vev14_2 (l : Int) (es : List (List AV)) (quantum : Int) : Int := bif bif decide (vev20_0 l Tk.imm es < (0 : Int)) then true else decide (quantum < (1 : Int)) then (0 : Int) else intOf (((rev14_5 l es quantum).getD (vev20_0 l Tk.imm es).toNat []).getD ((0 : Nat) + (1 : Nat)) AV.junk)
noncomputable def vev14_3 (l : Int) (es : List (List AV)) (quantum : Int) : Int := bif bif decide (vev20_0 l Tk.imm es < (0 : Int)) then true else decide (quantum < (1 : Int)) then (0 : Int) else rev14_7 l es quantum
noncomputable def vev14_4 (l : Int) (es : List (List AV)) (quantum : Int) : Int := bif bif decide (vev20_0 l Tk.imm es < (0 : Int)) then true else decide (quantum < (1 : Int)) then (0 : Int) else intOf (((rev14_5 l es quantum).getD (vev20_0 l Tk.imm es).toNat []).getD ((0 : Nat) + (1 : Nat) + (1 : Nat) + (1 : Nat)) AV.junk)
noncomputable def vev14_5 (l : Int) (es : List (List AV)) (quantum : Int) : Int := bif bif decide (vev20_0 l Tk.imm es < (0 : Int)) then true else decide (quantum < (1 : Int)) then (0 : Int) else rev14_4 l es quantum
noncomputable def vev14_6 (l : Int) (es : List (List AV)) (quantum : Int) : Bool := bif vev27_0 l Tk.imm es then bif vev20_1 l Tk.imm es then bif bif decide (vev20_0 l Tk.imm es < (0 : Int)) then true else decide (quantum < (1 : Int)) then true else bif (spI g14_5 n14_5 y14_5 z14_5 d14_5 ((quantum, vev20_0 l Tk.imm es, vev20_0 l Tk.imm es, l, (0 : Int), (0 : Int), (0 : Int), (0 : Int), (0 : Int)), (0 : Int), es)).fst then bif decide ((0 : Int) ≤ vev20_0 l Tk.imm es) && decide (vev20_0 l Tk.imm es < rev14_2 l es quantum) then bif bif decide ((0 : Int) ≤ vev20_0 l Tk.imm es) then decide (vev20_0 l Tk.imm es < rev14_6 l es quantum) else false then bif decide (rev14_7 l es quantum = (0 : Int)) then bif bif decide ((0 : Int) ≤ vev20_0 l Tk.imm es) then bif decide (vev20_0 l Tk.imm es < rev14_8 l es quantum) then bif decide (rev14_8 l es quantum ≤ rev14_6 l es quantum) then decide ((rev14_5 l es quantum).length * (32 : Nat) ≤ (140737488355328 : Nat)) else false else false else false then true else false else true else false else false else false else false else false
theorem ev14 (l : Int) (es : List (List AV)) (quantum : Int) : evFin (cfg Try.prog tab 100000 (gk k12 30) lsp14 14 ([] : List Blk).length Try.f14.ntmps) ([] : List Blk).length Try.f14.resultTypes.toList Try.f14 [.agg [.int .i64 l, .sl .imm [.int .i64, .int .i64, .int .i64, .int .i64] es], .int .i64 quantum] [] = bif vev14_6 l es quantum then some (true, AV.tup [AV.agg [AV.int IntKind.i64 l, AV.sl Tk.imm [Kd.int IntKind.i64, Kd.int IntKind.i64, Kd.int IntKind.i64, Kd.int IntKind.i64] (vev14_0 l es quantum)], AV.agg [AV.int IntKind.i64 (vev14_1 l es quantum), AV.int IntKind.i64 (vev14_2 l es quantum), AV.int IntKind.i64 (vev14_3 l es quantum), AV.int IntKind.i64 (vev14_4 l es quantum)], AV.int IntKind.i64 (vev14_5 l es quantum)], []) else none := by
  have h : evFin (cfg Try.prog tab 100000 (gk k12 30) lsp14 14 ([] : List Blk).length Try.f14.ntmps) ([] : List Blk).length Try.f14.resultTypes.toList Try.f14 [.agg [.int .i64 l, .sl .imm [.int .i64, .int .i64, .int .i64, .int .i64] es], .int .i64 quantum] [] = bif vev27_0 l Tk.imm es then bif vev20_1 l Tk.imm es then bif bif decide (vev20_0 l Tk.imm es < (0 : Int)) then true else true then bif bif decide (vev20_0 l Tk.imm es < (0 : Int)) then true else bif false then true else decide (quantum < (1 : Int)) then some (true, AV.tup [AV.agg [AV.int IntKind.i64 l, AV.sl Tk.imm [Kd.int IntKind.i64, Kd.int IntKind.i64, Kd.int IntKind.i64, Kd.int IntKind.i64] es], AV.agg [AV.int IntKind.i64 (0 : Int), AV.int IntKind.i64 (0 : Int), AV.int IntKind.i64 (0 : Int), AV.int IntKind.i64 (0 : Int)], AV.int IntKind.i64 (0 : Int)], []) else bif (spI g14_5 n14_5 y14_5 z14_5 d14_5 ((quantum, vev20_0 l Tk.imm es, vev20_0 l Tk.imm es, l, (0 : Int), (0 : Int), (0 : Int), (0 : Int), (0 : Int)), (0 : Int), es)).fst then bif decide ((0 : Int) ≤ vev20_0 l Tk.imm es) && decide (vev20_0 l Tk.imm es < rev14_2 l es quantum) then bif decide ((0 : Int) ≤ vev20_0 l Tk.imm es) && decide (vev20_0 l Tk.imm es < rev14_2 l es quantum) then bif decide ((0 : Int) ≤ vev20_0 l Tk.imm es) && decide (vev20_0 l Tk.imm es < rev14_2 l es quantum) then bif bif decide ((0 : Int) ≤ vev20_0 l Tk.imm es) then decide (vev20_0 l Tk.imm es < rev14_6 l es quantum) else false then bif decide (rev14_7 l es quantum = (0 : Int)) then bif bif decide ((0 : Int) ≤ vev20_0 l Tk.imm es) then bif decide (vev20_0 l Tk.imm es < rev14_8 l es quantum) then bif decide (rev14_8 l es quantum ≤ rev14_6 l es quantum) then decide ((rev14_5 l es quantum).length * (32 : Nat) ≤ (140737488355328 : Nat)) else false else false else false then some (true, AV.tup [AV.agg [AV.int IntKind.i64 l, AV.sl Tk.imm [Kd.int IntKind.i64, Kd.int IntKind.i64, Kd.int IntKind.i64, Kd.int IntKind.i64] (List.take ((vev20_0 l Tk.imm es).toNat + ((rev14_5 l es quantum).length - (rev14_8 l es quantum).toNat)) (List.drop (0 : Nat) (List.take (vev20_0 l Tk.imm es).toNat (rev14_5 l es quantum) ++ List.drop (rev14_8 l es quantum).toNat (rev14_5 l es quantum) ++ List.replicate ((rev14_8 l es quantum).toNat - (vev20_0 l Tk.imm es).toNat) [AV.int IntKind.i64 (0 : Int), AV.int IntKind.i64 (0 : Int), AV.int IntKind.i64 (0 : Int), AV.int IntKind.i64 (0 : Int)])))], AV.agg [AV.int IntKind.i64 (intOf (((rev14_5 l es quantum).getD (vev20_0 l Tk.imm es).toNat []).getD (0 : Nat) AV.junk)), AV.int IntKind.i64 (intOf (((rev14_5 l es quantum).getD (vev20_0 l Tk.imm es).toNat []).getD ((0 : Nat) + (1 : Nat)) AV.junk)), AV.int IntKind.i64 (rev14_7 l es quantum), AV.int IntKind.i64 (intOf (((rev14_5 l es quantum).getD (vev20_0 l Tk.imm es).toNat []).getD ((0 : Nat) + (1 : Nat) + (1 : Nat) + (1 : Nat)) AV.junk))], AV.int IntKind.i64 (rev14_4 l es quantum)], []) else none else some (true, AV.tup [AV.agg [AV.int IntKind.i64 l, AV.sl Tk.imm [Kd.int IntKind.i64, Kd.int IntKind.i64, Kd.int IntKind.i64, Kd.int IntKind.i64] (rev14_5 l es quantum)], AV.agg [AV.int IntKind.i64 (intOf (((rev14_5 l es quantum).getD (vev20_0 l Tk.imm es).toNat []).getD (0 : Nat) AV.junk)), AV.int IntKind.i64 (intOf (((rev14_5 l es quantum).getD (vev20_0 l Tk.imm es).toNat []).getD ((0 : Nat) + (1 : Nat)) AV.junk)), AV.int IntKind.i64 (rev14_7 l es quantum), AV.int IntKind.i64 (intOf (((rev14_5 l es quantum).getD (vev20_0 l Tk.imm es).toNat []).getD ((0 : Nat) + (1 : Nat) + (1 : Nat) + (1 : Nat)) AV.junk))], AV.int IntKind.i64 (rev14_4 l es quantum)], []) else none else none else none else none else none else none else none else none := by kernel_rfl
  rw [h]
  clear h
  unfold vev14_0 vev14_1 vev14_2 vev14_3 vev14_4 vev14_5 vev14_6
  generalize ((spI g14_5 n14_5 y14_5 z14_5 d14_5 ((quantum, vev20_0 l Tk.imm es, vev20_0 l Tk.imm es, l, (0 : Int), (0 : Int), (0 : Int), (0 : Int), (0 : Int)), (0 : Int), es)).fst) = c0
  generalize (decide ((rev14_5 l es quantum).length * (32 : Nat) ≤ (140737488355328 : Nat))) = c1
  generalize (decide ((0 : Int) ≤ vev20_0 l Tk.imm es) && decide (vev20_0 l Tk.imm es < rev14_2 l es quantum)) = c2
  generalize (decide ((0 : Int) ≤ vev20_0 l Tk.imm es)) = c3
  generalize (decide (vev20_0 l Tk.imm es < (0 : Int))) = c4
  generalize (decide (rev14_7 l es quantum = (0 : Int))) = c5
  generalize (decide (vev20_0 l Tk.imm es < rev14_6 l es quantum)) = c6
  generalize (decide (rev14_8 l es quantum ≤ rev14_6 l es quantum)) = c7
  generalize (decide (vev20_0 l Tk.imm es < rev14_8 l es quantum)) = c8
  generalize (decide (quantum < (1 : Int))) = c9
  generalize (vev20_1 l Tk.imm es) = c10
  generalize (vev27_0 l Tk.imm es) = c11
  cases c11
  · skip
    rfl
  · skip
    cases c10
    · skip
      rfl
    · skip
      cases c4
      · skip
        cases c9
        · skip
          cases c0
          · skip
            rfl
          · skip
            cases c2
            · skip
              rfl
            · skip
              cases c3
              · skip
                rfl
              · skip
                cases c6
                · skip
                  rfl
                · skip
                  cases c5
                  · skip
                    rfl
                  · skip
                    cases c8
                    · skip
                      rfl
                    · skip
                      cases c7
                      · skip
                        rfl
                      · skip
                        cases c1
                        · skip
                          rfl
                        · skip
                          rfl
        · skip
          rfl
      · skip
        rfl
-- spec vev14_6 l es quantum ;; (true, AV.tup [AV.agg [AV.int IntKind.i64 l, AV.sl Tk.imm [Kd.int IntKind.i64, Kd.int IntKind.i64, Kd.int IntKind.i64, Kd.int IntKind.i64] (vev14_0 l es quantum)], AV.agg [AV.int IntKind.i64 (vev14_1 l es quantum), AV.int IntKind.i64 (vev14_2 l es quantum), AV.int IntKind.i64 (vev14_3 l es quantum), AV.int IntKind.i64 (vev14_4 l es quantum)], AV.int IntKind.i64 (vev14_5 l es quantum)], [])
noncomputable def sp14 : List AV → List Blk → Option (Bool × AV × List Blk)
  | [.agg [.int .i64 l, .sl .imm [.int .i64, .int .i64, .int .i64, .int .i64] es], .int .i64 quantum], [] => spW (vev14_6 l es quantum) (some ((true, AV.tup [AV.agg [AV.int IntKind.i64 l, AV.sl Tk.imm [Kd.int IntKind.i64, Kd.int IntKind.i64, Kd.int IntKind.i64, Kd.int IntKind.i64] (vev14_0 l es quantum)], AV.agg [AV.int IntKind.i64 (vev14_1 l es quantum), AV.int IntKind.i64 (vev14_2 l es quantum), AV.int IntKind.i64 (vev14_3 l es quantum), AV.int IntKind.i64 (vev14_4 l es quantum)], AV.int IntKind.i64 (vev14_5 l es quantum)], [])))
  | _, _ => none
noncomputable def k14 : Gam := fun f T C => match Nat.beq f 14 with
  | true => (sp14 T C).or (k12 f T C)
  | false => k12 f T C
theorem k14_ok : GamOK Try.prog k14 := by
  intro f T C r outs h
  unfold k14 at h
  cases hf : Nat.beq f 14 with
  | false => rw [hf] at h; exact k12_ok f T C r outs h
  | true =>
    have hf' := Nat.eq_of_beq_eq_true hf
    subst hf'
    rw [hf] at h
    dsimp only at h
    cases hs : sp14 T C with
    | none => rw [hs] at h; exact k12_ok _ T C r outs h
    | some x =>
      rw [hs] at h
      have hx : x = (true, r, outs) := by simpa using h
      subst hx
      unfold sp14 at hs
      split at hs
      · rename_i l es quantum
        obtain ⟨hb, rfl, rfl⟩ := spT_inv hs
        have he := ev14 l es quantum
        rw [hb, cond_true] at he
        obtain ⟨r0, o0, h0, he⟩ := evFin_inv he
        obtain ⟨h1, h2⟩ := fn_ok mixed plain (gk_ok k12_ok 30) Try.func14 loops14 h0
        exact ⟨h1, h2.fin he⟩
      · cases hs
end Go.Proofs.Gv
