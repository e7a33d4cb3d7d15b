import Derived.Test.YtjbohlgfhfehdaaGt
import Derived.KernelRfl
import Derived.Test.YtjbohlgfhfehdaaGwF
import Derived.Test.YtjbohlgfhfehdaaGxJ
import Derived.Test.YtjbohlgfhfehdaaGaHp2
namespace Go.Proofs.Gv
open Go.Proofs
set_option linter.unusedVariables false
noncomputable def rn8_3_0 (t0 : List (List AV)) (t4 : Int) (b1 : List (List AV)) : List (List AV) := [[AV.int IntKind.i64 (intOf ((t0.getD t4.toNat []).getD (0 : Nat) AV.junk)), AV.int IntKind.i64 (intOf ((t0.getD t4.toNat []).getD ((0 : Nat) + (1 : Nat)) AV.junk))]]
noncomputable def go8_3 (t0 : List (List AV)) (t4 : Int) (b1 : List (List AV)) : Bool := bif decide (t4 < (↑t0.length : Int)) then bif decide ((0 : Int) ≤ t4) && decide (t4 < (↑t0.length : Int)) then bif decide ((b1.length + (rn8_3_0 t0 t4 b1).length) * (16 : Nat) ≤ (140737488355328 : Nat)) then decide (b1.length + (rn8_3_0 t0 t4 b1).length ≤ (9223372036854775807 : Nat)) else false else false else false
noncomputable def nx8_3_1 (t0 : List (List AV)) (t4 : Int) (b1 : List (List AV)) : Int := IntKind.i64.wrap (t4 + (1 : Int))
noncomputable def nx8_3_2 (t0 : List (List AV)) (t4 : Int) (b1 : List (List AV)) : List (List AV) := b1 ++ rn8_3_0 t0 t4 b1
noncomputable def xc8_3_0 (t0 : List (List AV)) (t4 : Int) (b1 : List (List AV)) : Bool := bif decide (t4 < (↑t0.length : Int)) then false else true
theorem rd8_3 (rest : Lsp) (t0 : List (List AV)) (t4 : Int) (b1 : List (List AV)) : roundV (cfg Try.prog tab 100000 (gk k20 30) rest 8 0 Try.f8.ntmps) (loopAt Try.f8 3) [0, 3, 4] [0, 1] [3] [0, 1] [AV.sl Tk.imm [Kd.int IntKind.i64, Kd.int IntKind.i64] t0, AV.rf (nat_lit 1) [Kd.int IntKind.i64, Kd.int IntKind.i64], AV.int IntKind.i64 t4] [Blk.dead, Blk.row [Kd.int IntKind.i64, Kd.int IntKind.i64] b1] = bif go8_3 t0 t4 b1 then some (Ex.norm, [AV.sl Tk.imm [Kd.int IntKind.i64, Kd.int IntKind.i64] t0, AV.rf (nat_lit 1) [Kd.int IntKind.i64, Kd.int IntKind.i64], AV.int IntKind.i64 (nx8_3_1 t0 t4 b1)], [Blk.dead, Blk.row [Kd.int IntKind.i64, Kd.int IntKind.i64] (nx8_3_2 t0 t4 b1)]) else bif xc8_3_0 t0 t4 b1 then some (Ex.exit (nat_lit 0), [AV.rf (nat_lit 1) [Kd.int IntKind.i64, Kd.int IntKind.i64]], [Blk.dead, Blk.row [Kd.int IntKind.i64, Kd.int IntKind.i64] b1]) else none := by
  have h : roundV (cfg Try.prog tab 100000 (gk k20 30) rest 8 0 Try.f8.ntmps) (loopAt Try.f8 3) [0, 3, 4] [0, 1] [3] [0, 1] [AV.sl Tk.imm [Kd.int IntKind.i64, Kd.int IntKind.i64] t0, AV.rf (nat_lit 1) [Kd.int IntKind.i64, Kd.int IntKind.i64], AV.int IntKind.i64 t4] [Blk.dead, Blk.row [Kd.int IntKind.i64, Kd.int IntKind.i64] b1] = bif decide (t4 < (↑t0.length : Int)) then bif decide ((0 : Int) ≤ t4) && decide (t4 < (↑t0.length : Int)) then bif bif decide ((b1.length + (rn8_3_0 t0 t4 b1).length) * (16 : Nat) ≤ (140737488355328 : Nat)) then decide (b1.length + (rn8_3_0 t0 t4 b1).length ≤ (9223372036854775807 : Nat)) else false then some (Ex.norm, [AV.sl Tk.imm [Kd.int IntKind.i64, Kd.int IntKind.i64] t0, AV.rf (nat_lit 1) [Kd.int IntKind.i64, Kd.int IntKind.i64], AV.int IntKind.i64 (IntKind.i64.wrap (t4 + (1 : Int)))], [Blk.dead, Blk.row [Kd.int IntKind.i64, Kd.int IntKind.i64] (b1 ++ rn8_3_0 t0 t4 b1)]) else none else none else some (Ex.exit (nat_lit 0), [AV.rf (nat_lit 1) [Kd.int IntKind.i64, Kd.int IntKind.i64]], [Blk.dead, Blk.row [Kd.int IntKind.i64, Kd.int IntKind.i64] b1]) := by kernel_rfl
  rw [h]
  clear h
  unfold go8_3 nx8_3_1 nx8_3_2 xc8_3_0
  generalize (decide ((b1.length + (rn8_3_0 t0 t4 b1).length) * (16 : Nat) ≤ (140737488355328 : Nat))) = c0
  generalize (decide (b1.length + (rn8_3_0 t0 t4 b1).length ≤ (9223372036854775807 : Nat))) = c1
  generalize (decide ((0 : Int) ≤ t4) && decide (t4 < (↑t0.length : Int))) = c2
  generalize (decide (t4 < (↑t0.length : Int))) = c3
  cases c3
  · skip
    rfl
  · skip
    cases c2
    · skip
      rfl
    · skip
      cases c0
      · skip
        rfl
      · skip
        cases c1
        · skip
          rfl
        · skip
          rfl
abbrev pl8_3 : Type := (List (List AV))
abbrev sl8_3 : Type := Int × (List (List AV))
noncomputable def vt8_3 (a : pl8_3 × sl8_3) : List AV := [AV.sl Tk.imm [Kd.int IntKind.i64, Kd.int IntKind.i64] a.1, AV.rf (nat_lit 1) [Kd.int IntKind.i64, Kd.int IntKind.i64], AV.int IntKind.i64 a.2.1]
noncomputable def vc8_3 (a : pl8_3 × sl8_3) : List Blk := [Blk.dead, Blk.row [Kd.int IntKind.i64, Kd.int IntKind.i64] a.2.2]
noncomputable def de8_3 (vt : List AV) (vc : List Blk) : Option (pl8_3 × sl8_3) :=
  match vt with
  | [qa0, qa1, qa2] => (match vc with
  | [qb0, qb1] => (match qa0 with
  | AV.sl Tk.imm [Kd.int IntKind.i64, Kd.int IntKind.i64] t0 => (match qa1 with
  | AV.rf (1) [Kd.int IntKind.i64, Kd.int IntKind.i64] => (match qa2 with
  | AV.int IntKind.i64 t4 => (match qb0 with
  | Blk.dead => (match qb1 with
  | Blk.row [Kd.int IntKind.i64, Kd.int IntKind.i64] b1 => (some (t0, (t4, b1)))
  | _ => none)
  | _ => none)
  | _ => none)
  | _ => none)
  | _ => none)
  | _ => none)
  | _ => none
theorem de8_3_ok (vt : List AV) (vc : List Blk) (a : pl8_3 × sl8_3) (h : de8_3 vt vc = some a) : vt = vt8_3 a ∧ vc = vc8_3 a := by
  unfold de8_3 at h
  split at h
  rotate_left
  · cases h
  split at h
  rotate_left
  · cases h
  split at h
  rotate_left
  · cases h
  split at h
  rotate_left
  · cases h
  split at h
  rotate_left
  · cases h
  split at h
  rotate_left
  · cases h
  split at h
  rotate_left
  · cases h
  injection h with h
  subst h
  exact ⟨rfl, rfl⟩
noncomputable def g8_3 (p : pl8_3) (s : sl8_3) : Bool := go8_3 p s.1 s.2
noncomputable def n8_3 (p : pl8_3) (s : sl8_3) : sl8_3 := (nx8_3_1 p s.1 s.2, nx8_3_2 p s.1 s.2)
noncomputable def y8_3 (p : pl8_3) (s : sl8_3) : List (Bool × Out) := []
noncomputable def z8_3 (p : pl8_3) (s : sl8_3) : Bool := xc8_3_0 p s.1 s.2
noncomputable def d8_3 (p : pl8_3) (s : sl8_3) : Out := (Ex.exit (nat_lit 0), [AV.rf (nat_lit 1) [Kd.int IntKind.i64, Kd.int IntKind.i64]], [Blk.dead, Blk.row [Kd.int IntKind.i64, Kd.int IntKind.i64] s.2])
noncomputable def ls8_3 : St → Option (Bool × List (Bool × Ex × St) × Ex × St) := lspOf [0, 3, 4] [0, 1] [3] [0, 1] Try.f8.ntmps (0 + tab.nid 8) de8_3 (spI g8_3 n8_3 y8_3 z8_3 d8_3)
theorem lo8_3 (rest : Lsp) : LoopOK1 (cfg Try.prog tab 100000 (gk k20 30) (selL 3 ls8_3 rest) 8 0 Try.f8.ntmps) (loopAt Try.f8 3) := LoopOK1.iter (i := 3) (by kernel_rfl) [0, 3, 4] [0, 1] [3] [0, 1] vt8_3 vc8_3 de8_3 g8_3 n8_3 y8_3 z8_3 d8_3 (fun _ => rfl) de8_3_ok (fun p s => rd8_3 (selL 3 ls8_3 rest) p (s.1) (s.2)) (fun _ _ => rfl)
noncomputable def lsp8 : Lsp := (selL 3 ls8_3 noLsp)
theorem loops8 : ∀ c, Try.f8.body = some c → LoopsOK (cfg Try.prog tab 100000 (gk k20 30) lsp8 8 0 Try.f8.ntmps) c := loops_of [3] (by kernel_rfl) (by kernel_rfl) (fun i hi => by
  simp only [List.mem_cons, List.not_mem_nil, or_false] at hi
  subst hi
  · exact lo8_3 noLsp)
noncomputable def rev8_0 (es : List (List AV)) : sl8_3 := finL (g8_3 es) (n8_3 es) ((0 : Int), [])
noncomputable def vev8_0 (es : List (List AV)) : List (List AV) := (rev8_0 es).snd
noncomputable def vev8_1 (es : List (List AV)) : Bool := bif (spI g8_3 n8_3 y8_3 z8_3 d8_3 (es, (0 : Int), [])).fst then true else false
theorem ev8 (es : List (List AV)) : evFin (cfg Try.prog tab 100000 (gk k20 30) lsp8 8 ([] : List Blk).length Try.f8.ntmps) ([] : List Blk).length Try.f8.resultTypes.toList Try.f8 [.sl .imm [.int .i64, .int .i64] es] [] = bif vev8_1 es then some (true, AV.sl Tk.imm [Kd.int IntKind.i64, Kd.int IntKind.i64] (vev8_0 es), []) else none := by
  have h : evFin (cfg Try.prog tab 100000 (gk k20 30) lsp8 8 ([] : List Blk).length Try.f8.ntmps) ([] : List Blk).length Try.f8.resultTypes.toList Try.f8 [.sl .imm [.int .i64, .int .i64] es] [] = bif (spI g8_3 n8_3 y8_3 z8_3 d8_3 (es, (0 : Int), [])).fst then some (true, AV.sl Tk.imm [Kd.int IntKind.i64, Kd.int IntKind.i64] (rev8_0 es).snd, []) else none := by kernel_rfl
  rw [h]
  clear h
  unfold vev8_0 vev8_1
  generalize ((spI g8_3 n8_3 y8_3 z8_3 d8_3 (es, (0 : Int), [])).fst) = c0
  cases c0
  · skip
    rfl
  · skip
    rfl
-- spec vev8_1 es ;; (true, AV.sl Tk.imm [Kd.int IntKind.i64, Kd.int IntKind.i64] (vev8_0 es), [])
noncomputable def sp8 : List AV → List Blk → Option (Bool × AV × List Blk)
  | [.sl .imm [.int .i64, .int .i64] es], [] => spW (vev8_1 es) (some ((true, AV.sl Tk.imm [Kd.int IntKind.i64, Kd.int IntKind.i64] (vev8_0 es), [])))
  | _, _ => none
noncomputable def k8 : Gam := fun f T C => match Nat.beq f 8 with
  | true => (sp8 T C).or (k20 f T C)
  | false => k20 f T C
theorem k8_ok : GamOK Try.prog k8 := by
  intro f T C r outs h
  unfold k8 at h
  cases hf : Nat.beq f 8 with
  | false => rw [hf] at h; exact k20_ok f T C r outs h
  | true =>
    have hf' := Nat.eq_of_beq_eq_true hf
    subst hf'
    rw [hf] at h
    dsimp only at h
    cases hs : sp8 T C with
    | none => rw [hs] at h; exact k20_ok _ T C r outs h
    | some x =>
      rw [hs] at h
      have hx : x = (true, r, outs) := by simpa using h
      subst hx
      unfold sp8 at hs
      split at hs
      · rename_i es
        obtain ⟨hb, rfl, rfl⟩ := spT_inv hs
        have he := ev8 es
        rw [hb, cond_true] at he
        obtain ⟨r0, o0, h0, he⟩ := evFin_inv he
        obtain ⟨h1, h2⟩ := fn_ok mixed plain (gk_ok k20_ok 30) Try.func8 loops8 h0
        exact ⟨h1, h2.fin he⟩
      · cases hs
noncomputable def rn10_3_0 (t0k : Tk) (t0 : List (List AV)) (t4 : Int) (b1 : List (List AV)) : List (List AV) := [[AV.int IntKind.i64 (intOf ((t0.getD t4.toNat []).getD (0 : Nat) AV.junk)), AV.int IntKind.i64 (intOf ((t0.getD t4.toNat []).getD ((0 : Nat) + (1 : Nat)) AV.junk))]]
noncomputable def go10_3 (t0k : Tk) (t0 : List (List AV)) (t4 : Int) (b1 : List (List AV)) : Bool := bif decide (t4 < (↑t0.length : Int)) then bif decide ((0 : Int) ≤ t4) && decide (t4 < (↑t0.length : Int)) then bif decide ((b1.length + (rn10_3_0 t0k t0 t4 b1).length) * (16 : Nat) ≤ (140737488355328 : Nat)) then decide (b1.length + (rn10_3_0 t0k t0 t4 b1).length ≤ (9223372036854775807 : Nat)) else false else false else false
noncomputable def nx10_3_2 (t0k : Tk) (t0 : List (List AV)) (t4 : Int) (b1 : List (List AV)) : Int := IntKind.i64.wrap (t4 + (1 : Int))
noncomputable def nx10_3_3 (t0k : Tk) (t0 : List (List AV)) (t4 : Int) (b1 : List (List AV)) : List (List AV) := b1 ++ rn10_3_0 t0k t0 t4 b1
noncomputable def xc10_3_0 (t0k : Tk) (t0 : List (List AV)) (t4 : Int) (b1 : List (List AV)) : Bool := bif decide (t4 < (↑t0.length : Int)) then false else true
theorem rd10_3 (rest : Lsp) (t0k : Tk) (t0 : List (List AV)) (t4 : Int) (b1 : List (List AV)) : roundV (cfg Try.prog tab 100000 (gk k8 30) rest 10 0 Try.f10.ntmps) (loopAt Try.f10 3) [0, 3, 4] [0, 1] [3] [0, 1] [AV.sl t0k [Kd.int IntKind.i64, Kd.int IntKind.i64] t0, AV.rf (nat_lit 1) [Kd.int IntKind.i64, Kd.int IntKind.i64], AV.int IntKind.i64 t4] [Blk.dead, Blk.row [Kd.int IntKind.i64, Kd.int IntKind.i64] b1] = bif go10_3 t0k t0 t4 b1 then some (Ex.norm, [AV.sl t0k [Kd.int IntKind.i64, Kd.int IntKind.i64] t0, AV.rf (nat_lit 1) [Kd.int IntKind.i64, Kd.int IntKind.i64], AV.int IntKind.i64 (nx10_3_2 t0k t0 t4 b1)], [Blk.dead, Blk.row [Kd.int IntKind.i64, Kd.int IntKind.i64] (nx10_3_3 t0k t0 t4 b1)]) else bif xc10_3_0 t0k t0 t4 b1 then some (Ex.exit (nat_lit 0), [AV.rf (nat_lit 1) [Kd.int IntKind.i64, Kd.int IntKind.i64]], [Blk.dead, Blk.row [Kd.int IntKind.i64, Kd.int IntKind.i64] b1]) else none := by
  have h : roundV (cfg Try.prog tab 100000 (gk k8 30) rest 10 0 Try.f10.ntmps) (loopAt Try.f10 3) [0, 3, 4] [0, 1] [3] [0, 1] [AV.sl t0k [Kd.int IntKind.i64, Kd.int IntKind.i64] t0, AV.rf (nat_lit 1) [Kd.int IntKind.i64, Kd.int IntKind.i64], AV.int IntKind.i64 t4] [Blk.dead, Blk.row [Kd.int IntKind.i64, Kd.int IntKind.i64] b1] = bif decide (t4 < (↑t0.length : Int)) then bif decide ((0 : Int) ≤ t4) && decide (t4 < (↑t0.length : Int)) then bif bif decide ((b1.length + (rn10_3_0 t0k t0 t4 b1).length) * (16 : Nat) ≤ (140737488355328 : Nat)) then decide (b1.length + (rn10_3_0 t0k t0 t4 b1).length ≤ (9223372036854775807 : Nat)) else false then some (Ex.norm, [AV.sl t0k [Kd.int IntKind.i64, Kd.int IntKind.i64] t0, AV.rf (nat_lit 1) [Kd.int IntKind.i64, Kd.int IntKind.i64], AV.int IntKind.i64 (IntKind.i64.wrap (t4 + (1 : Int)))], [Blk.dead, Blk.row [Kd.int IntKind.i64, Kd.int IntKind.i64] (b1 ++ rn10_3_0 t0k t0 t4 b1)]) else none else none else some (Ex.exit (nat_lit 0), [AV.rf (nat_lit 1) [Kd.int IntKind.i64, Kd.int IntKind.i64]], [Blk.dead, Blk.row [Kd.int IntKind.i64, Kd.int IntKind.i64] b1]) := by kernel_rfl
  rw [h]
  clear h
  unfold go10_3 nx10_3_2 nx10_3_3 xc10_3_0
  generalize (decide ((b1.length + (rn10_3_0 t0k t0 t4 b1).length) * (16 : Nat) ≤ (140737488355328 : Nat))) = c0
  generalize (decide (b1.length + (rn10_3_0 t0k t0 t4 b1).length ≤ (9223372036854775807 : Nat))) = c1
  generalize (decide ((0 : Int) ≤ t4) && decide (t4 < (↑t0.length : Int))) = c2
  generalize (decide (t4 < (↑t0.length : Int))) = c3
  cases c3
  · skip
    rfl
  · skip
    cases c2
    · skip
      rfl
    · skip
      cases c0
      · skip
        rfl
      · skip
        cases c1
        · skip
          rfl
        · skip
          rfl
abbrev pl10_3 : Type := Tk × (List (List AV))
abbrev sl10_3 : Type := Int × (List (List AV))
noncomputable def vt10_3 (a : pl10_3 × sl10_3) : List AV := [AV.sl a.1.1 [Kd.int IntKind.i64, Kd.int IntKind.i64] a.1.2, AV.rf (nat_lit 1) [Kd.int IntKind.i64, Kd.int IntKind.i64], AV.int IntKind.i64 a.2.1]
noncomputable def vc10_3 (a : pl10_3 × sl10_3) : List Blk := [Blk.dead, Blk.row [Kd.int IntKind.i64, Kd.int IntKind.i64] a.2.2]
noncomputable def de10_3 (vt : List AV) (vc : List Blk) : Option (pl10_3 × sl10_3) :=
  match vt with
  | [qa0, qa1, qa2] => (match vc with
  | [qb0, qb1] => (match qa0 with
  | AV.sl t0k [Kd.int IntKind.i64, Kd.int IntKind.i64] t0 => (match qa1 with
  | AV.rf (1) [Kd.int IntKind.i64, Kd.int IntKind.i64] => (match qa2 with
  | AV.int IntKind.i64 t4 => (match qb0 with
  | Blk.dead => (match qb1 with
  | Blk.row [Kd.int IntKind.i64, Kd.int IntKind.i64] b1 => (some ((t0k, t0), (t4, b1)))
  | _ => none)
  | _ => none)
  | _ => none)
  | _ => none)
  | _ => none)
  | _ => none)
  | _ => none
theorem de10_3_ok (vt : List AV) (vc : List Blk) (a : pl10_3 × sl10_3) (h : de10_3 vt vc = some a) : vt = vt10_3 a ∧ vc = vc10_3 a := by
  unfold de10_3 at h
  split at h
  rotate_left
  · cases h
  split at h
  rotate_left
  · cases h
  split at h
  rotate_left
  · cases h
  split at h
  rotate_left
  · cases h
  split at h
  rotate_left
  · cases h
  split at h
  rotate_left
  · cases h
  split at h
  rotate_left
  · cases h
  injection h with h
  subst h
  exact ⟨rfl, rfl⟩
noncomputable def g10_3 (p : pl10_3) (s : sl10_3) : Bool := go10_3 p.1 p.2 s.1 s.2
noncomputable def n10_3 (p : pl10_3) (s : sl10_3) : sl10_3 := (nx10_3_2 p.1 p.2 s.1 s.2, nx10_3_3 p.1 p.2 s.1 s.2)
noncomputable def y10_3 (p : pl10_3) (s : sl10_3) : List (Bool × Out) := []
noncomputable def z10_3 (p : pl10_3) (s : sl10_3) : Bool := xc10_3_0 p.1 p.2 s.1 s.2
noncomputable def d10_3 (p : pl10_3) (s : sl10_3) : Out := (Ex.exit (nat_lit 0), [AV.rf (nat_lit 1) [Kd.int IntKind.i64, Kd.int IntKind.i64]], [Blk.dead, Blk.row [Kd.int IntKind.i64, Kd.int IntKind.i64] s.2])
noncomputable def ls10_3 : St → Option (Bool × List (Bool × Ex × St) × Ex × St) := lspOf [0, 3, 4] [0, 1] [3] [0, 1] Try.f10.ntmps (0 + tab.nid 10) de10_3 (spI g10_3 n10_3 y10_3 z10_3 d10_3)
theorem lo10_3 (rest : Lsp) : LoopOK1 (cfg Try.prog tab 100000 (gk k8 30) (selL 3 ls10_3 rest) 10 0 Try.f10.ntmps) (loopAt Try.f10 3) := LoopOK1.iter (i := 3) (by kernel_rfl) [0, 3, 4] [0, 1] [3] [0, 1] vt10_3 vc10_3 de10_3 g10_3 n10_3 y10_3 z10_3 d10_3 (fun _ => rfl) de10_3_ok (fun p s => rd10_3 (selL 3 ls10_3 rest) (p.1) (p.2) (s.1) (s.2)) (fun _ _ => rfl)
noncomputable def lsp10 : Lsp := (selL 3 ls10_3 noLsp)
theorem loops10 : ∀ c, Try.f10.body = some c → LoopsOK (cfg Try.prog tab 100000 (gk k8 30) lsp10 10 0 Try.f10.ntmps) c := loops_of [3] (by kernel_rfl) (by kernel_rfl) (fun i hi => by
  simp only [List.mem_cons, List.not_mem_nil, or_false] at hi
  subst hi
  · exact lo10_3 noLsp)
noncomputable def rev10_0 (tk : Tk) (es : List (List AV)) : sl10_3 := finL (g10_3 (tk, es)) (n10_3 (tk, es)) ((0 : Int), [])
noncomputable def vev10_0 (tk : Tk) (es : List (List AV)) : List (List AV) := (rev10_0 tk es).snd
noncomputable def vev10_1 (tk : Tk) (es : List (List AV)) : Bool := bif (spI g10_3 n10_3 y10_3 z10_3 d10_3 ((tk, es), (0 : Int), [])).fst then true else false
theorem ev10 (tk : Tk) (es : List (List AV)) : evFin (cfg Try.prog tab 100000 (gk k8 30) lsp10 10 ([] : List Blk).length Try.f10.ntmps) ([] : List Blk).length Try.f10.resultTypes.toList Try.f10 [.sl tk [.int .i64, .int .i64] es] [] = bif vev10_1 tk es then some (true, AV.sl Tk.imm [Kd.int IntKind.i64, Kd.int IntKind.i64] (vev10_0 tk es), []) else none := by
  have h : evFin (cfg Try.prog tab 100000 (gk k8 30) lsp10 10 ([] : List Blk).length Try.f10.ntmps) ([] : List Blk).length Try.f10.resultTypes.toList Try.f10 [.sl tk [.int .i64, .int .i64] es] [] = bif (spI g10_3 n10_3 y10_3 z10_3 d10_3 ((tk, es), (0 : Int), [])).fst then some (true, AV.sl Tk.imm [Kd.int IntKind.i64, Kd.int IntKind.i64] (rev10_0 tk es).snd, []) else none := by kernel_rfl
  rw [h]
  clear h
  unfold vev10_0 vev10_1
  generalize ((spI g10_3 n10_3 y10_3 z10_3 d10_3 ((tk, es), (0 : Int), [])).fst) = c0
  cases c0
  · skip
    rfl
  · skip
    rfl
-- spec vev10_1 tk es ;; (true, AV.sl Tk.imm [Kd.int IntKind.i64, Kd.int IntKind.i64] (vev10_0 tk es), [])
noncomputable def sp10 : List AV → List Blk → Option (Bool × AV × List Blk)
  | [.sl tk [.int .i64, .int .i64] es], [] => spW (vev10_1 tk es) (some ((true, AV.sl Tk.imm [Kd.int IntKind.i64, Kd.int IntKind.i64] (vev10_0 tk es), [])))
  | _, _ => none
noncomputable def k10 : Gam := fun f T C => match Nat.beq f 10 with
  | true => (sp10 T C).or (k8 f T C)
  | false => k8 f T C
theorem k10_ok : GamOK Try.prog k10 := by
  intro f T C r outs h
  unfold k10 at h
  cases hf : Nat.beq f 10 with
  | false => rw [hf] at h; exact k8_ok f T C r outs h
  | true =>
    have hf' := Nat.eq_of_beq_eq_true hf
    subst hf'
    rw [hf] at h
    dsimp only at h
    cases hs : sp10 T C with
    | none => rw [hs] at h; exact k8_ok _ T C r outs h
    | some x =>
      rw [hs] at h
      have hx : x = (true, r, outs) := by simpa using h
      subst hx
      unfold sp10 at hs
      split at hs
      · rename_i tk es
        obtain ⟨hb, rfl, rfl⟩ := spT_inv hs
        have he := ev10 tk es
        rw [hb, cond_true] at he
        obtain ⟨r0, o0, h0, he⟩ := evFin_inv he
        obtain ⟨h1, h2⟩ := fn_ok mixed plain (gk_ok k8_ok 30) Try.func10 loops10 h0
        exact ⟨h1, h2.fin he⟩
      · cases hs
noncomputable def vev16_0 (a : Int) (b : Int) (c : Int) (d : Int) : Bool := bif a != c then decide (a < c) else decide (b < d)
theorem ev16 (a : Int) (b : Int) (c : Int) (d : Int) : evFin (cfg Try.prog tab 100000 (gk k10 30) noLsp 16 ([] : List Blk).length Try.f16.ntmps) ([] : List Blk).length Try.f16.resultTypes.toList Try.f16 [.agg [.int .i64 a, .int .i64 b], .agg [.int .i64 c, .int .i64 d]] [] = some (true, AV.bool (vev16_0 a b c d), []) := by
  have h : evFin (cfg Try.prog tab 100000 (gk k10 30) noLsp 16 ([] : List Blk).length Try.f16.ntmps) ([] : List Blk).length Try.f16.resultTypes.toList Try.f16 [.agg [.int .i64 a, .int .i64 b], .agg [.int .i64 c, .int .i64 d]] [] = bif a != c then some (true, AV.bool (decide (a < c)), []) else some (true, AV.bool (decide (b < d)), []) := by kernel_rfl
  rw [h]
  clear h
  unfold vev16_0
  generalize (a != c) = c0
  cases c0
  · skip
    rfl
  · skip
    rfl
-- spec true ;; (true, AV.bool (vev16_0 a b c d), [])
noncomputable def sp16 : List AV → List Blk → Option (Bool × AV × List Blk)
  | [.agg [.int .i64 a, .int .i64 b], .agg [.int .i64 c, .int .i64 d]], [] => spW (true) (some ((true, AV.bool (vev16_0 a b c d), [])))
  | _, _ => none
noncomputable def k16 : Gam := fun f T C => match Nat.beq f 16 with
  | true => (sp16 T C).or (k10 f T C)
  | false => k10 f T C
theorem k16_ok : GamOK Try.prog k16 := by
  intro f T C r outs h
  unfold k16 at h
  cases hf : Nat.beq f 16 with
  | false => rw [hf] at h; exact k10_ok f T C r outs h
  | true =>
    have hf' := Nat.eq_of_beq_eq_true hf
    subst hf'
    rw [hf] at h
    dsimp only at h
    cases hs : sp16 T C with
    | none => rw [hs] at h; exact k10_ok _ T C r outs h
    | some x =>
      rw [hs] at h
      have hx : x = (true, r, outs) := by simpa using h
      subst hx
      unfold sp16 at hs
      split at hs
      · rename_i a b c d
        obtain ⟨hb, rfl, rfl⟩ := spT_inv hs
        have he := ev16 a b c d
        obtain ⟨r0, o0, h0, he⟩ := evFin_inv he
        obtain ⟨h1, h2⟩ := fn_ok mixed plain (gk_ok k10_ok 30) Try.func16 (fun c _ => LoopsOK.none (fun _ _ => rfl) c) h0
        exact ⟨h1, h2.fin he⟩
      · cases hs
noncomputable def rn14_2_0 (t0k : Tk) (t0 : List (List AV)) (t3 : Int) : Int := IntKind.i64.wrap ((IntKind.i64.wrap (t3 - (1 : Int))).tdiv (2 : Int))
noncomputable def go14_2 (t0k : Tk) (t0 : List (List AV)) (t3 : Int) : Bool := bif decide (t3 < (↑t0.length : Int)) then bif decide ((0 : Int) ≤ t3) && decide (t3 < (↑t0.length : Int)) then bif decide ((0 : Int) ≤ rn14_2_0 t0k t0 t3) && decide (rn14_2_0 t0k t0 t3 < (↑t0.length : Int)) then bif vev16_0 (intOf ((t0.getD t3.toNat []).getD (0 : Nat) AV.junk)) (intOf ((t0.getD t3.toNat []).getD ((0 : Nat) + (1 : Nat)) AV.junk)) (intOf ((t0.getD (rn14_2_0 t0k t0 t3).toNat []).getD (0 : Nat) AV.junk)) (intOf ((t0.getD (rn14_2_0 t0k t0 t3).toNat []).getD ((0 : Nat) + (1 : Nat)) AV.junk)) then false else true else false else false else false
noncomputable def nx14_2_2 (t0k : Tk) (t0 : List (List AV)) (t3 : Int) : Int := IntKind.i64.wrap (t3 + (1 : Int))
noncomputable def xc14_2_0 (t0k : Tk) (t0 : List (List AV)) (t3 : Int) : Bool := bif decide (t3 < (↑t0.length : Int)) then bif decide ((0 : Int) ≤ t3) && decide (t3 < (↑t0.length : Int)) then bif decide ((0 : Int) ≤ rn14_2_0 t0k t0 t3) && decide (rn14_2_0 t0k t0 t3 < (↑t0.length : Int)) then vev16_0 (intOf ((t0.getD t3.toNat []).getD (0 : Nat) AV.junk)) (intOf ((t0.getD t3.toNat []).getD ((0 : Nat) + (1 : Nat)) AV.junk)) (intOf ((t0.getD (rn14_2_0 t0k t0 t3).toNat []).getD (0 : Nat) AV.junk)) (intOf ((t0.getD (rn14_2_0 t0k t0 t3).toNat []).getD ((0 : Nat) + (1 : Nat)) AV.junk)) else false else false else false
noncomputable def xc14_2_1 (t0k : Tk) (t0 : List (List AV)) (t3 : Int) : Bool := bif decide (t3 < (↑t0.length : Int)) then false else true
theorem rd14_2 (rest : Lsp) (t0k : Tk) (t0 : List (List AV)) (t3 : Int) : roundV (cfg Try.prog tab 100000 (gk k16 30) rest 14 0 Try.f14.ntmps) (loopAt Try.f14 2) [0, 3] [] [2] [] [AV.sl t0k [Kd.int IntKind.i64, Kd.int IntKind.i64] t0, AV.int IntKind.i64 t3] [] = bif go14_2 t0k t0 t3 then some (Ex.norm, [AV.sl t0k [Kd.int IntKind.i64, Kd.int IntKind.i64] t0, AV.int IntKind.i64 (nx14_2_2 t0k t0 t3)], []) else bif xc14_2_0 t0k t0 t3 then some (Ex.ret, [AV.int IntKind.i64 (10 : Int)], []) else bif xc14_2_1 t0k t0 t3 then some (Ex.exit (nat_lit 0), [AV.junk], []) else none := by
  have h : roundV (cfg Try.prog tab 100000 (gk k16 30) rest 14 0 Try.f14.ntmps) (loopAt Try.f14 2) [0, 3] [] [2] [] [AV.sl t0k [Kd.int IntKind.i64, Kd.int IntKind.i64] t0, AV.int IntKind.i64 t3] [] = bif decide (t3 < (↑t0.length : Int)) then bif decide ((0 : Int) ≤ t3) && decide (t3 < (↑t0.length : Int)) then bif decide ((0 : Int) ≤ rn14_2_0 t0k t0 t3) && decide (rn14_2_0 t0k t0 t3 < (↑t0.length : Int)) then bif vev16_0 (intOf ((t0.getD t3.toNat []).getD (0 : Nat) AV.junk)) (intOf ((t0.getD t3.toNat []).getD ((0 : Nat) + (1 : Nat)) AV.junk)) (intOf ((t0.getD (rn14_2_0 t0k t0 t3).toNat []).getD (0 : Nat) AV.junk)) (intOf ((t0.getD (rn14_2_0 t0k t0 t3).toNat []).getD ((0 : Nat) + (1 : Nat)) AV.junk)) then some (Ex.ret, [AV.int IntKind.i64 (10 : Int)], []) else some (Ex.norm, [AV.sl t0k [Kd.int IntKind.i64, Kd.int IntKind.i64] t0, AV.int IntKind.i64 (IntKind.i64.wrap (t3 + (1 : Int)))], []) else none else none else some (Ex.exit (nat_lit 0), [AV.junk], []) := by kernel_rfl
  rw [h]
  clear h
  unfold go14_2 nx14_2_2 xc14_2_0 xc14_2_1
  generalize (vev16_0 (intOf ((t0.getD t3.toNat []).getD (0 : Nat) AV.junk)) (intOf ((t0.getD t3.toNat []).getD ((0 : Nat) + (1 : Nat)) AV.junk)) (intOf ((t0.getD (rn14_2_0 t0k t0 t3).toNat []).getD (0 : Nat) AV.junk)) (intOf ((t0.getD (rn14_2_0 t0k t0 t3).toNat []).getD ((0 : Nat) + (1 : Nat)) AV.junk))) = c0
  generalize (decide ((0 : Int) ≤ rn14_2_0 t0k t0 t3) && decide (rn14_2_0 t0k t0 t3 < (↑t0.length : Int))) = c1
  generalize (decide ((0 : Int) ≤ t3) && decide (t3 < (↑t0.length : Int))) = c2
  generalize (decide (t3 < (↑t0.length : Int))) = c3
  cases c3
  · skip
    rfl
  · skip
    cases c2
    · skip
      rfl
    · skip
      cases c1
      · skip
        rfl
      · skip
        cases c0
        · skip
          rfl
        · skip
          rfl
abbrev pl14_2 : Type := Tk × (List (List AV))
abbrev sl14_2 : Type := Int
noncomputable def vt14_2 (a : pl14_2 × sl14_2) : List AV := [AV.sl a.1.1 [Kd.int IntKind.i64, Kd.int IntKind.i64] a.1.2, AV.int IntKind.i64 a.2]
noncomputable def vc14_2 (a : pl14_2 × sl14_2) : List Blk := []
noncomputable def de14_2 (vt : List AV) (vc : List Blk) : Option (pl14_2 × sl14_2) :=
  match vt with
  | [qa0, qa1] => (match vc with
  | [] => (match qa0 with
  | AV.sl t0k [Kd.int IntKind.i64, Kd.int IntKind.i64] t0 => (match qa1 with
  | AV.int IntKind.i64 t3 => (some ((t0k, t0), t3))
  | _ => none)
  | _ => none)
  | _ => none)
  | _ => none
theorem de14_2_ok (vt : List AV) (vc : List Blk) (a : pl14_2 × sl14_2) (h : de14_2 vt vc = some a) : vt = vt14_2 a ∧ vc = vc14_2 a := by
  unfold de14_2 at h
  split at h
  rotate_left
  · cases h
  split at h
  rotate_left
  · cases h
  split at h
  rotate_left
  · cases h
  split at h
  rotate_left
  · cases h
  injection h with h
  subst h
  exact ⟨rfl, rfl⟩
noncomputable def g14_2 (p : pl14_2) (s : sl14_2) : Bool := go14_2 p.1 p.2 s
noncomputable def n14_2 (p : pl14_2) (s : sl14_2) : sl14_2 := nx14_2_2 p.1 p.2 s
noncomputable def y14_2 (p : pl14_2) (s : sl14_2) : List (Bool × Out) := [(xc14_2_0 p.1 p.2 s, (Ex.ret, [AV.int IntKind.i64 (10 : Int)], []))]
noncomputable def z14_2 (p : pl14_2) (s : sl14_2) : Bool := xc14_2_1 p.1 p.2 s
noncomputable def d14_2 (p : pl14_2) (s : sl14_2) : Out := (Ex.exit (nat_lit 0), [AV.junk], [])
noncomputable def ls14_2 : St → Option (Bool × List (Bool × Ex × St) × Ex × St) := lspOf [0, 3] [] [2] [] Try.f14.ntmps (0 + tab.nid 14) de14_2 (spI g14_2 n14_2 y14_2 z14_2 d14_2)
theorem lo14_2 (rest : Lsp) : LoopOK1 (cfg Try.prog tab 100000 (gk k16 30) (selL 2 ls14_2 rest) 14 0 Try.f14.ntmps) (loopAt Try.f14 2) := LoopOK1.iter (i := 2) (by kernel_rfl) [0, 3] [] [2] [] vt14_2 vc14_2 de14_2 g14_2 n14_2 y14_2 z14_2 d14_2 (fun _ => rfl) de14_2_ok (fun p s => rd14_2 (selL 2 ls14_2 rest) (p.1) (p.2) s) (fun _ _ => rfl)
noncomputable def lsp14 : Lsp := (selL 2 ls14_2 noLsp)
theorem loops14 : ∀ c, Try.f14.body = some c → LoopsOK (cfg Try.prog tab 100000 (gk k16 30) lsp14 14 0 Try.f14.ntmps) c := loops_of [2] (by kernel_rfl) (by kernel_rfl) (fun i hi => by
  simp only [List.mem_cons, List.not_mem_nil, or_false] at hi
  subst hi
  · exact lo14_2 noLsp)
noncomputable def rev14_0 (tk : Tk) (es : List (List AV)) : sl14_2 := finL (g14_2 (tk, es)) (n14_2 (tk, es)) (1 : Int)
noncomputable def vev14_0 (tk : Tk) (es : List (List AV)) : Int := bif xc14_2_0 tk es (rev14_0 tk es) then (10 : Int) else (0 : Int)
noncomputable def vev14_1 (tk : Tk) (es : List (List AV)) : Bool := bif (spI g14_2 n14_2 y14_2 z14_2 d14_2 ((tk, es), (1 : Int))).fst then true else false
theorem ev14 (tk : Tk) (es : List (List AV)) : evFin (cfg Try.prog tab 100000 (gk k16 30) lsp14 14 ([] : List Blk).length Try.f14.ntmps) ([] : List Blk).length Try.f14.resultTypes.toList Try.f14 [.sl tk [.int .i64, .int .i64] es] [] = bif vev14_1 tk es then some (true, AV.int IntKind.i64 (vev14_0 tk es), []) else none := by
  have h : evFin (cfg Try.prog tab 100000 (gk k16 30) lsp14 14 ([] : List Blk).length Try.f14.ntmps) ([] : List Blk).length Try.f14.resultTypes.toList Try.f14 [.sl tk [.int .i64, .int .i64] es] [] = bif (spI g14_2 n14_2 y14_2 z14_2 d14_2 ((tk, es), (1 : Int))).fst then bif xc14_2_0 tk es (rev14_0 tk es) then some (true, AV.int IntKind.i64 (10 : Int), []) else some (true, AV.int IntKind.i64 (0 : Int), []) else none := by kernel_rfl
  rw [h]
  clear h
  unfold vev14_0 vev14_1
  generalize ((spI g14_2 n14_2 y14_2 z14_2 d14_2 ((tk, es), (1 : Int))).fst) = c0
  generalize (xc14_2_0 tk es (rev14_0 tk es)) = c1
  cases c0
  · skip
    rfl
  · skip
    cases c1
    · skip
      rfl
    · skip
      rfl
-- spec vev14_1 tk es ;; (true, AV.int IntKind.i64 (vev14_0 tk es), [])
noncomputable def sp14 : List AV → List Blk → Option (Bool × AV × List Blk)
  | [.sl tk [.int .i64, .int .i64] es], [] => spW (vev14_1 tk es) (some ((true, AV.int IntKind.i64 (vev14_0 tk es), [])))
  | _, _ => none
noncomputable def k14 : Gam := fun f T C => match Nat.beq f 14 with
  | true => (sp14 T C).or (k16 f T C)
  | false => k16 f T C
theorem k14_ok : GamOK Try.prog k14 := by
  intro f T C r outs h
  unfold k14 at h
  cases hf : Nat.beq f 14 with
  | false => rw [hf] at h; exact k16_ok f T C r outs h
  | true =>
    have hf' := Nat.eq_of_beq_eq_true hf
    subst hf'
    rw [hf] at h
    dsimp only at h
    cases hs : sp14 T C with
    | none => rw [hs] at h; exact k16_ok _ T C r outs h
    | some x =>
      rw [hs] at h
      have hx : x = (true, r, outs) := by simpa using h
      subst hx
      unfold sp14 at hs
      split at hs
      · rename_i tk es
        obtain ⟨hb, rfl, rfl⟩ := spT_inv hs
        have he := ev14 tk es
        rw [hb, cond_true] at he
        obtain ⟨r0, o0, h0, he⟩ := evFin_inv he
        obtain ⟨h1, h2⟩ := fn_ok mixed plain (gk_ok k16_ok 30) Try.func14 loops14 h0
        exact ⟨h1, h2.fin he⟩
      · cases hs
noncomputable def rn12_6_0 (t0k : Tk) (t0 : List (List AV)) (t4 : Int) (t5 : Int) (b3 : List (List AV)) : Int := IntKind.i64.wrap (t5 - (1 : Int))
noncomputable def go12_6 (t0k : Tk) (t0 : List (List AV)) (t4 : Int) (t5 : Int) (b3 : List (List AV)) : Bool := bif bif decide (t5 > (0 : Int)) then bif decide ((0 : Int) ≤ t4) && decide (t4 < (↑t0.length : Int)) then decide ((0 : Int) ≤ rn12_6_0 t0k t0 t4 t5 b3) && decide (rn12_6_0 t0k t0 t4 t5 b3 < (↑b3.length : Int)) else false else true then bif decide (t5 > (0 : Int)) then bif decide ((0 : Int) ≤ t4) && decide (t4 < (↑t0.length : Int)) then bif decide ((0 : Int) ≤ rn12_6_0 t0k t0 t4 t5 b3) && decide (rn12_6_0 t0k t0 t4 t5 b3 < (↑b3.length : Int)) then vev16_0 (intOf ((t0.getD t4.toNat []).getD (0 : Nat) AV.junk)) (intOf ((t0.getD t4.toNat []).getD ((0 : Nat) + (1 : Nat)) AV.junk)) (intOf ((b3.getD (rn12_6_0 t0k t0 t4 t5 b3).toNat []).getD (0 : Nat) AV.junk)) (intOf ((b3.getD (rn12_6_0 t0k t0 t4 t5 b3).toNat []).getD ((0 : Nat) + (1 : Nat)) AV.junk)) else false else false else false else false
noncomputable def xc12_6_0 (t0k : Tk) (t0 : List (List AV)) (t4 : Int) (t5 : Int) (b3 : List (List AV)) : Bool := bif bif decide (t5 > (0 : Int)) then bif decide ((0 : Int) ≤ t4) && decide (t4 < (↑t0.length : Int)) then decide ((0 : Int) ≤ rn12_6_0 t0k t0 t4 t5 b3) && decide (rn12_6_0 t0k t0 t4 t5 b3 < (↑b3.length : Int)) else false else true then bif bif decide (t5 > (0 : Int)) then bif decide ((0 : Int) ≤ t4) && decide (t4 < (↑t0.length : Int)) then bif decide ((0 : Int) ≤ rn12_6_0 t0k t0 t4 t5 b3) && decide (rn12_6_0 t0k t0 t4 t5 b3 < (↑b3.length : Int)) then vev16_0 (intOf ((t0.getD t4.toNat []).getD (0 : Nat) AV.junk)) (intOf ((t0.getD t4.toNat []).getD ((0 : Nat) + (1 : Nat)) AV.junk)) (intOf ((b3.getD (rn12_6_0 t0k t0 t4 t5 b3).toNat []).getD (0 : Nat) AV.junk)) (intOf ((b3.getD (rn12_6_0 t0k t0 t4 t5 b3).toNat []).getD ((0 : Nat) + (1 : Nat)) AV.junk)) else false else false else false then false else true else false
theorem rd12_6 (rest : Lsp) (t0k : Tk) (t0 : List (List AV)) (t4 : Int) (t5 : Int) (b3 : List (List AV)) : roundV (cfg Try.prog tab 100000 (gk k14 30) rest 12 0 Try.f12.ntmps) (loopAt Try.f12 6) [0, 3, 4, 5] [3] [0, 3, 4, 5] [3] [AV.sl t0k [Kd.int IntKind.i64, Kd.int IntKind.i64] t0, AV.rf (nat_lit 3) [Kd.int IntKind.i64, Kd.int IntKind.i64], AV.int IntKind.i64 t4, AV.int IntKind.i64 t5] [Blk.row [Kd.int IntKind.i64, Kd.int IntKind.i64] b3] = bif go12_6 t0k t0 t4 t5 b3 then some (Ex.norm, [AV.sl t0k [Kd.int IntKind.i64, Kd.int IntKind.i64] t0, AV.rf (nat_lit 3) [Kd.int IntKind.i64, Kd.int IntKind.i64], AV.int IntKind.i64 t4, AV.int IntKind.i64 (rn12_6_0 t0k t0 t4 t5 b3)], [Blk.row [Kd.int IntKind.i64, Kd.int IntKind.i64] b3]) else bif xc12_6_0 t0k t0 t4 t5 b3 then some (Ex.exit (nat_lit 2), [AV.sl t0k [Kd.int IntKind.i64, Kd.int IntKind.i64] t0, AV.rf (nat_lit 3) [Kd.int IntKind.i64, Kd.int IntKind.i64], AV.int IntKind.i64 t4, AV.int IntKind.i64 t5], [Blk.row [Kd.int IntKind.i64, Kd.int IntKind.i64] b3]) else none := by
  have h : roundV (cfg Try.prog tab 100000 (gk k14 30) rest 12 0 Try.f12.ntmps) (loopAt Try.f12 6) [0, 3, 4, 5] [3] [0, 3, 4, 5] [3] [AV.sl t0k [Kd.int IntKind.i64, Kd.int IntKind.i64] t0, AV.rf (nat_lit 3) [Kd.int IntKind.i64, Kd.int IntKind.i64], AV.int IntKind.i64 t4, AV.int IntKind.i64 t5] [Blk.row [Kd.int IntKind.i64, Kd.int IntKind.i64] b3] = bif bif decide (t5 > (0 : Int)) then bif decide ((0 : Int) ≤ t4) && decide (t4 < (↑t0.length : Int)) then bif decide ((0 : Int) ≤ rn12_6_0 t0k t0 t4 t5 b3) && decide (rn12_6_0 t0k t0 t4 t5 b3 < (↑b3.length : Int)) then true else false else false else true then bif bif decide (t5 > (0 : Int)) then bif decide ((0 : Int) ≤ t4) && decide (t4 < (↑t0.length : Int)) then bif decide ((0 : Int) ≤ rn12_6_0 t0k t0 t4 t5 b3) && decide (rn12_6_0 t0k t0 t4 t5 b3 < (↑b3.length : Int)) then bif true then vev16_0 (intOf ((t0.getD t4.toNat []).getD (0 : Nat) AV.junk)) (intOf ((t0.getD t4.toNat []).getD ((0 : Nat) + (1 : Nat)) AV.junk)) (intOf ((b3.getD (rn12_6_0 t0k t0 t4 t5 b3).toNat []).getD (0 : Nat) AV.junk)) (intOf ((b3.getD (rn12_6_0 t0k t0 t4 t5 b3).toNat []).getD ((0 : Nat) + (1 : Nat)) AV.junk)) else false else false else false else false then some (Ex.norm, [AV.sl t0k [Kd.int IntKind.i64, Kd.int IntKind.i64] t0, AV.rf (nat_lit 3) [Kd.int IntKind.i64, Kd.int IntKind.i64], AV.int IntKind.i64 t4, AV.int IntKind.i64 (rn12_6_0 t0k t0 t4 t5 b3)], [Blk.row [Kd.int IntKind.i64, Kd.int IntKind.i64] b3]) else some (Ex.exit (nat_lit 2), [AV.sl t0k [Kd.int IntKind.i64, Kd.int IntKind.i64] t0, AV.rf (nat_lit 3) [Kd.int IntKind.i64, Kd.int IntKind.i64], AV.int IntKind.i64 t4, AV.int IntKind.i64 t5], [Blk.row [Kd.int IntKind.i64, Kd.int IntKind.i64] b3]) else none := by kernel_rfl
  rw [h]
  clear h
  unfold go12_6 xc12_6_0
  generalize (vev16_0 (intOf ((t0.getD t4.toNat []).getD (0 : Nat) AV.junk)) (intOf ((t0.getD t4.toNat []).getD ((0 : Nat) + (1 : Nat)) AV.junk)) (intOf ((b3.getD (rn12_6_0 t0k t0 t4 t5 b3).toNat []).getD (0 : Nat) AV.junk)) (intOf ((b3.getD (rn12_6_0 t0k t0 t4 t5 b3).toNat []).getD ((0 : Nat) + (1 : Nat)) AV.junk))) = c0
  generalize (decide ((0 : Int) ≤ rn12_6_0 t0k t0 t4 t5 b3) && decide (rn12_6_0 t0k t0 t4 t5 b3 < (↑b3.length : Int))) = c1
  generalize (decide ((0 : Int) ≤ t4) && decide (t4 < (↑t0.length : Int))) = c2
  generalize (decide (t5 > (0 : Int))) = c3
  cases c3
  · skip
    rfl
  · skip
    cases c2
    · skip
      rfl
    · skip
      cases c1
      · skip
        rfl
      · skip
        cases c0
        · skip
          rfl
        · skip
          rfl
abbrev pl12_6 : Type := Tk × (List (List AV)) × Int × (List (List AV))
abbrev sl12_6 : Type := Int
noncomputable def vt12_6 (a : pl12_6 × sl12_6) : List AV := [AV.sl a.1.1 [Kd.int IntKind.i64, Kd.int IntKind.i64] a.1.2.1, AV.rf (nat_lit 3) [Kd.int IntKind.i64, Kd.int IntKind.i64], AV.int IntKind.i64 a.1.2.2.1, AV.int IntKind.i64 a.2]
noncomputable def vc12_6 (a : pl12_6 × sl12_6) : List Blk := [Blk.row [Kd.int IntKind.i64, Kd.int IntKind.i64] a.1.2.2.2]
noncomputable def de12_6 (vt : List AV) (vc : List Blk) : Option (pl12_6 × sl12_6) :=
  match vt with
  | [qa0, qa1, qa2, qa3] => (match vc with
  | [qb0] => (match qa0 with
  | AV.sl t0k [Kd.int IntKind.i64, Kd.int IntKind.i64] t0 => (match qa1 with
  | AV.rf (3) [Kd.int IntKind.i64, Kd.int IntKind.i64] => (match qa2 with
  | AV.int IntKind.i64 t4 => (match qa3 with
  | AV.int IntKind.i64 t5 => (match qb0 with
  | Blk.row [Kd.int IntKind.i64, Kd.int IntKind.i64] b3 => (some ((t0k, t0, t4, b3), t5))
  | _ => none)
  | _ => none)
  | _ => none)
  | _ => none)
  | _ => none)
  | _ => none)
  | _ => none
theorem de12_6_ok (vt : List AV) (vc : List Blk) (a : pl12_6 × sl12_6) (h : de12_6 vt vc = some a) : vt = vt12_6 a ∧ vc = vc12_6 a := by
  unfold de12_6 at h
  split at h
  rotate_left
  · cases h
  split at h
  rotate_left
  · cases h
  split at h
  rotate_left
  · cases h
  split at h
  rotate_left
  · cases h
  split at h
  rotate_left
  · cases h
  split at h
  rotate_left
  · cases h
  split at h
  rotate_left
  · cases h
  injection h with h
  subst h
  exact ⟨rfl, rfl⟩
noncomputable def g12_6 (p : pl12_6) (s : sl12_6) : Bool := go12_6 p.1 p.2.1 p.2.2.1 s p.2.2.2
noncomputable def n12_6 (p : pl12_6) (s : sl12_6) : sl12_6 := rn12_6_0 p.1 p.2.1 p.2.2.1 s p.2.2.2
noncomputable def y12_6 (p : pl12_6) (s : sl12_6) : List (Bool × Out) := []
noncomputable def z12_6 (p : pl12_6) (s : sl12_6) : Bool := xc12_6_0 p.1 p.2.1 p.2.2.1 s p.2.2.2
noncomputable def d12_6 (p : pl12_6) (s : sl12_6) : Out := (Ex.exit (nat_lit 2), [AV.sl p.1 [Kd.int IntKind.i64, Kd.int IntKind.i64] p.2.1, AV.rf (nat_lit 3) [Kd.int IntKind.i64, Kd.int IntKind.i64], AV.int IntKind.i64 p.2.2.1, AV.int IntKind.i64 s], [Blk.row [Kd.int IntKind.i64, Kd.int IntKind.i64] p.2.2.2])
noncomputable def ls12_6 : St → Option (Bool × List (Bool × Ex × St) × Ex × St) := lspOf [0, 3, 4, 5] [3] [0, 3, 4, 5] [3] Try.f12.ntmps (0 + tab.nid 12) de12_6 (spI g12_6 n12_6 y12_6 z12_6 d12_6)
theorem lo12_6 (rest : Lsp) : LoopOK1 (cfg Try.prog tab 100000 (gk k14 30) (selL 6 ls12_6 rest) 12 0 Try.f12.ntmps) (loopAt Try.f12 6) := LoopOK1.iter (i := 6) (by kernel_rfl) [0, 3, 4, 5] [3] [0, 3, 4, 5] [3] vt12_6 vc12_6 de12_6 g12_6 n12_6 y12_6 z12_6 d12_6 (fun _ => rfl) de12_6_ok (fun p s => rd12_6 (selL 6 ls12_6 rest) (p.1) (p.2.1) (p.2.2.1) s (p.2.2.2)) (fun _ _ => rfl)
noncomputable def rn12_3_0 (t0k : Tk) (t0 : List (List AV)) (t4 : Int) (b3 : List (List AV)) : sl12_6 := finL (g12_6 (t0k, t0, t4, b3)) (n12_6 (t0k, t0, t4, b3)) (↑b3.length : Int)
noncomputable def rn12_3_1 (t0k : Tk) (t0 : List (List AV)) (t4 : Int) (b3 : List (List AV)) : List (List AV) := List.take (Int.toNat (rn12_3_0 t0k t0 t4 b3)) (List.drop (0 : Nat) b3)
noncomputable def rn12_3_2 (t0k : Tk) (t0 : List (List AV)) (t4 : Int) (b3 : List (List AV)) : List (List AV) := [[AV.int IntKind.i64 (intOf ((t0.getD t4.toNat []).getD (0 : Nat) AV.junk)), AV.int IntKind.i64 (intOf ((t0.getD t4.toNat []).getD ((0 : Nat) + (1 : Nat)) AV.junk))]]
noncomputable def rn12_3_3 (t0k : Tk) (t0 : List (List AV)) (t4 : Int) (b3 : List (List AV)) : List (List AV) := rn12_3_1 t0k t0 t4 b3 ++ rn12_3_2 t0k t0 t4 b3
noncomputable def rn12_3_4 (t0k : Tk) (t0 : List (List AV)) (t4 : Int) (b3 : List (List AV)) : List (List AV) := List.take (b3.length - Int.toNat (rn12_3_0 t0k t0 t4 b3)) (List.drop (Int.toNat (rn12_3_0 t0k t0 t4 b3)) b3)
noncomputable def go12_3 (t0k : Tk) (t0 : List (List AV)) (t4 : Int) (b3 : List (List AV)) : Bool := bif decide (t4 < (↑t0.length : Int)) then bif (spI g12_6 n12_6 y12_6 z12_6 d12_6 ((t0k, t0, t4, b3), (↑b3.length : Int))).fst then bif bnd (0 : Int) (rn12_3_0 t0k t0 t4 b3) (↑b3.length : Int) then bif bif decide ((rn12_3_1 t0k t0 t4 b3).length * (16 : Nat) ≤ (140737488355328 : Nat)) then decide ((rn12_3_1 t0k t0 t4 b3).length ≤ (9223372036854775807 : Nat)) else false then bif decide ((0 : Int) ≤ t4) && decide (t4 < (↑t0.length : Int)) then bif bif decide (((rn12_3_1 t0k t0 t4 b3).length + (rn12_3_2 t0k t0 t4 b3).length) * (16 : Nat) ≤ (140737488355328 : Nat)) then decide ((rn12_3_1 t0k t0 t4 b3).length + (rn12_3_2 t0k t0 t4 b3).length ≤ (9223372036854775807 : Nat)) else false then bif bnd (rn12_3_0 t0k t0 t4 b3) (↑b3.length : Int) (↑b3.length : Int) then bif decide (((rn12_3_3 t0k t0 t4 b3).length + (rn12_3_4 t0k t0 t4 b3).length) * (16 : Nat) ≤ (140737488355328 : Nat)) then decide ((rn12_3_3 t0k t0 t4 b3).length + (rn12_3_4 t0k t0 t4 b3).length ≤ (9223372036854775807 : Nat)) else false else false else false else false else false else false else false else false
noncomputable def nx12_3_2 (t0k : Tk) (t0 : List (List AV)) (t4 : Int) (b3 : List (List AV)) : Int := IntKind.i64.wrap (t4 + (1 : Int))
noncomputable def nx12_3_3 (t0k : Tk) (t0 : List (List AV)) (t4 : Int) (b3 : List (List AV)) : List (List AV) := rn12_3_3 t0k t0 t4 b3 ++ rn12_3_4 t0k t0 t4 b3
noncomputable def xc12_3_0 (t0k : Tk) (t0 : List (List AV)) (t4 : Int) (b3 : List (List AV)) : Bool := bif decide (t4 < (↑t0.length : Int)) then false else true
theorem rd12_3 (rest : Lsp) (t0k : Tk) (t0 : List (List AV)) (t4 : Int) (b3 : List (List AV)) : roundV (cfg Try.prog tab 100000 (gk k14 30) (selL 6 ls12_6 rest) 12 0 Try.f12.ntmps) (loopAt Try.f12 3) [0, 3, 4] [2, 3] [3] [2, 3] [AV.sl t0k [Kd.int IntKind.i64, Kd.int IntKind.i64] t0, AV.rf (nat_lit 3) [Kd.int IntKind.i64, Kd.int IntKind.i64], AV.int IntKind.i64 t4] [Blk.dead, Blk.row [Kd.int IntKind.i64, Kd.int IntKind.i64] b3] = bif go12_3 t0k t0 t4 b3 then some (Ex.norm, [AV.sl t0k [Kd.int IntKind.i64, Kd.int IntKind.i64] t0, AV.rf (nat_lit 3) [Kd.int IntKind.i64, Kd.int IntKind.i64], AV.int IntKind.i64 (nx12_3_2 t0k t0 t4 b3)], [Blk.dead, Blk.row [Kd.int IntKind.i64, Kd.int IntKind.i64] (nx12_3_3 t0k t0 t4 b3)]) else bif xc12_3_0 t0k t0 t4 b3 then some (Ex.exit (nat_lit 0), [AV.rf (nat_lit 3) [Kd.int IntKind.i64, Kd.int IntKind.i64]], [Blk.dead, Blk.row [Kd.int IntKind.i64, Kd.int IntKind.i64] b3]) else none := by
  have h : roundV (cfg Try.prog tab 100000 (gk k14 30) (selL 6 ls12_6 rest) 12 0 Try.f12.ntmps) (loopAt Try.f12 3) [0, 3, 4] [2, 3] [3] [2, 3] [AV.sl t0k [Kd.int IntKind.i64, Kd.int IntKind.i64] t0, AV.rf (nat_lit 3) [Kd.int IntKind.i64, Kd.int IntKind.i64], AV.int IntKind.i64 t4] [Blk.dead, Blk.row [Kd.int IntKind.i64, Kd.int IntKind.i64] b3] = bif decide (t4 < (↑t0.length : Int)) then bif (spI g12_6 n12_6 y12_6 z12_6 d12_6 ((t0k, t0, t4, b3), (↑b3.length : Int))).fst then bif bnd (0 : Int) (rn12_3_0 t0k t0 t4 b3) (↑b3.length : Int) then bif bif decide ((rn12_3_1 t0k t0 t4 b3).length * (16 : Nat) ≤ (140737488355328 : Nat)) then decide ((rn12_3_1 t0k t0 t4 b3).length ≤ (9223372036854775807 : Nat)) else false then bif decide ((0 : Int) ≤ t4) && decide (t4 < (↑t0.length : Int)) then bif bif decide (((rn12_3_1 t0k t0 t4 b3).length + (rn12_3_2 t0k t0 t4 b3).length) * (16 : Nat) ≤ (140737488355328 : Nat)) then decide ((rn12_3_1 t0k t0 t4 b3).length + (rn12_3_2 t0k t0 t4 b3).length ≤ (9223372036854775807 : Nat)) else false then bif bnd (rn12_3_0 t0k t0 t4 b3) (↑b3.length : Int) (↑b3.length : Int) then bif bif decide (((rn12_3_3 t0k t0 t4 b3).length + (rn12_3_4 t0k t0 t4 b3).length) * (16 : Nat) ≤ (140737488355328 : Nat)) then decide ((rn12_3_3 t0k t0 t4 b3).length + (rn12_3_4 t0k t0 t4 b3).length ≤ (9223372036854775807 : Nat)) else false then some (Ex.norm, [AV.sl t0k [Kd.int IntKind.i64, Kd.int IntKind.i64] t0, AV.rf (nat_lit 3) [Kd.int IntKind.i64, Kd.int IntKind.i64], AV.int IntKind.i64 (IntKind.i64.wrap (t4 + (1 : Int)))], [Blk.dead, Blk.row [Kd.int IntKind.i64, Kd.int IntKind.i64] (rn12_3_3 t0k t0 t4 b3 ++ rn12_3_4 t0k t0 t4 b3)]) else none else none else none else none else none else none else none else some (Ex.exit (nat_lit 0), [AV.rf (nat_lit 3) [Kd.int IntKind.i64, Kd.int IntKind.i64]], [Blk.dead, Blk.row [Kd.int IntKind.i64, Kd.int IntKind.i64] b3]) := by kernel_rfl
  rw [h]
  clear h
  unfold go12_3 nx12_3_2 nx12_3_3 xc12_3_0
  generalize (decide (((rn12_3_3 t0k t0 t4 b3).length + (rn12_3_4 t0k t0 t4 b3).length) * (16 : Nat) ≤ (140737488355328 : Nat))) = c0
  generalize (decide (((rn12_3_1 t0k t0 t4 b3).length + (rn12_3_2 t0k t0 t4 b3).length) * (16 : Nat) ≤ (140737488355328 : Nat))) = c1
  generalize ((spI g12_6 n12_6 y12_6 z12_6 d12_6 ((t0k, t0, t4, b3), (↑b3.length : Int))).fst) = c2
  generalize (decide ((rn12_3_3 t0k t0 t4 b3).length + (rn12_3_4 t0k t0 t4 b3).length ≤ (9223372036854775807 : Nat))) = c3
  generalize (decide ((rn12_3_1 t0k t0 t4 b3).length + (rn12_3_2 t0k t0 t4 b3).length ≤ (9223372036854775807 : Nat))) = c4
  generalize (decide ((rn12_3_1 t0k t0 t4 b3).length * (16 : Nat) ≤ (140737488355328 : Nat))) = c5
  generalize (decide ((0 : Int) ≤ t4) && decide (t4 < (↑t0.length : Int))) = c6
  generalize (decide ((rn12_3_1 t0k t0 t4 b3).length ≤ (9223372036854775807 : Nat))) = c7
  generalize (decide (t4 < (↑t0.length : Int))) = c8
  generalize (bnd (rn12_3_0 t0k t0 t4 b3) (↑b3.length : Int) (↑b3.length : Int)) = c9
  generalize (bnd (0 : Int) (rn12_3_0 t0k t0 t4 b3) (↑b3.length : Int)) = c10
  cases c8
  · skip
    rfl
  · skip
    cases c2
    · skip
      rfl
    · skip
      cases c10
      · skip
        rfl
      · skip
        cases c5
        · skip
          rfl
        · skip
          cases c7
          · skip
            rfl
          · skip
            cases c6
            · skip
              rfl
            · skip
              cases c1
              · skip
                rfl
              · skip
                cases c4
                · skip
                  rfl
                · skip
                  cases c9
                  · skip
                    rfl
                  · skip
                    cases c0
                    · skip
                      rfl
                    · skip
                      cases c3
                      · skip
                        rfl
                      · skip
                        rfl
abbrev pl12_3 : Type := Tk × (List (List AV))
abbrev sl12_3 : Type := Int × (List (List AV))
noncomputable def vt12_3 (a : pl12_3 × sl12_3) : List AV := [AV.sl a.1.1 [Kd.int IntKind.i64, Kd.int IntKind.i64] a.1.2, AV.rf (nat_lit 3) [Kd.int IntKind.i64, Kd.int IntKind.i64], AV.int IntKind.i64 a.2.1]
noncomputable def vc12_3 (a : pl12_3 × sl12_3) : List Blk := [Blk.dead, Blk.row [Kd.int IntKind.i64, Kd.int IntKind.i64] a.2.2]
noncomputable def de12_3 (vt : List AV) (vc : List Blk) : Option (pl12_3 × sl12_3) :=
  match vt with
  | [qa0, qa1, qa2] => (match vc with
  | [qb0, qb1] => (match qa0 with
  | AV.sl t0k [Kd.int IntKind.i64, Kd.int IntKind.i64] t0 => (match qa1 with
  | AV.rf (3) [Kd.int IntKind.i64, Kd.int IntKind.i64] => (match qa2 with
  | AV.int IntKind.i64 t4 => (match qb0 with
  | Blk.dead => (match qb1 with
  | Blk.row [Kd.int IntKind.i64, Kd.int IntKind.i64] b3 => (some ((t0k, t0), (t4, b3)))
  | _ => none)
  | _ => none)
  | _ => none)
  | _ => none)
  | _ => none)
  | _ => none)
  | _ => none
theorem de12_3_ok (vt : List AV) (vc : List Blk) (a : pl12_3 × sl12_3) (h : de12_3 vt vc = some a) : vt = vt12_3 a ∧ vc = vc12_3 a := by
  unfold de12_3 at h
  split at h
  rotate_left
  · cases h
  split at h
  rotate_left
  · cases h
  split at h
  rotate_left
  · cases h
  split at h
  rotate_left
  · cases h
  split at h
  rotate_left
  · cases h
  split at h
  rotate_left
  · cases h
  split at h
  rotate_left
  · cases h
  injection h with h
  subst h
  exact ⟨rfl, rfl⟩
noncomputable def g12_3 (p : pl12_3) (s : sl12_3) : Bool := go12_3 p.1 p.2 s.1 s.2
noncomputable def n12_3 (p : pl12_3) (s : sl12_3) : sl12_3 := (nx12_3_2 p.1 p.2 s.1 s.2, nx12_3_3 p.1 p.2 s.1 s.2)
noncomputable def y12_3 (p : pl12_3) (s : sl12_3) : List (Bool × Out) := []
noncomputable def z12_3 (p : pl12_3) (s : sl12_3) : Bool := xc12_3_0 p.1 p.2 s.1 s.2
noncomputable def d12_3 (p : pl12_3) (s : sl12_3) : Out := (Ex.exit (nat_lit 0), [AV.rf (nat_lit 3) [Kd.int IntKind.i64, Kd.int IntKind.i64]], [Blk.dead, Blk.row [Kd.int IntKind.i64, Kd.int IntKind.i64] s.2])
noncomputable def ls12_3 : St → Option (Bool × List (Bool × Ex × St) × Ex × St) := lspOf [0, 3, 4] [2, 3] [3] [2, 3] Try.f12.ntmps (0 + tab.nid 12) de12_3 (spI g12_3 n12_3 y12_3 z12_3 d12_3)
theorem lo12_3 (rest : Lsp) : LoopOK1 (cfg Try.prog tab 100000 (gk k14 30) (selL 6 ls12_6 (selL 3 ls12_3 rest)) 12 0 Try.f12.ntmps) (loopAt Try.f12 3) := LoopOK1.iter (i := 3) (by kernel_rfl) [0, 3, 4] [2, 3] [3] [2, 3] vt12_3 vc12_3 de12_3 g12_3 n12_3 y12_3 z12_3 d12_3 (fun _ => rfl) de12_3_ok (fun p s => rd12_3 (selL 3 ls12_3 rest) (p.1) (p.2) (s.1) (s.2)) (fun _ _ => rfl)
noncomputable def lsp12 : Lsp := (selL 6 ls12_6 (selL 3 ls12_3 noLsp))
theorem loops12 : ∀ c, Try.f12.body = some c → LoopsOK (cfg Try.prog tab 100000 (gk k14 30) lsp12 12 0 Try.f12.ntmps) c := loops_of [3, 6] (by kernel_rfl) (by kernel_rfl) (fun i hi => by
  simp only [List.mem_cons, List.not_mem_nil, or_false] at hi
  rcases hi with rfl | rfl
  · exact lo12_3 noLsp
  · exact lo12_6 (selL 3 ls12_3 noLsp))
noncomputable def rev12_0 (tk : Tk) (es : List (List AV)) : sl12_3 := finL (g12_3 (tk, es)) (n12_3 (tk, es)) ((0 : Int), [])
noncomputable def vev12_0 (tk : Tk) (es : List (List AV)) : List (List AV) := (rev12_0 tk es).snd
noncomputable def vev12_1 (tk : Tk) (es : List (List AV)) : Bool := bif (spI g12_3 n12_3 y12_3 z12_3 d12_3 ((tk, es), (0 : Int), [])).fst then true else false
theorem ev12 (tk : Tk) (es : List (List AV)) : evFin (cfg Try.prog tab 100000 (gk k14 30) lsp12 12 ([] : List Blk).length Try.f12.ntmps) ([] : List Blk).length Try.f12.resultTypes.toList Try.f12 [.sl tk [.int .i64, .int .i64] es] [] = bif vev12_1 tk es then some (true, AV.sl Tk.imm [Kd.int IntKind.i64, Kd.int IntKind.i64] (vev12_0 tk es), []) else none := by
  have h : evFin (cfg Try.prog tab 100000 (gk k14 30) lsp12 12 ([] : List Blk).length Try.f12.ntmps) ([] : List Blk).length Try.f12.resultTypes.toList Try.f12 [.sl tk [.int .i64, .int .i64] es] [] = bif (spI g12_3 n12_3 y12_3 z12_3 d12_3 ((tk, es), (0 : Int), [])).fst then some (true, AV.sl Tk.imm [Kd.int IntKind.i64, Kd.int IntKind.i64] (rev12_0 tk es).snd, []) else none := by kernel_rfl
  rw [h]
  clear h
  unfold vev12_0 vev12_1
  generalize ((spI g12_3 n12_3 y12_3 z12_3 d12_3 ((tk, es), (0 : Int), [])).fst) = c0
  cases c0
  · skip
    rfl
  · skip
    rfl
-- spec vev12_1 tk es ;; (true, AV.sl Tk.imm [Kd.int IntKind.i64, Kd.int IntKind.i64] (vev12_0 tk es), [])
noncomputable def sp12 : List AV → List Blk → Option (Bool × AV × List Blk)
  | [.sl tk [.int .i64, .int .i64] es], [] => spW (vev12_1 tk es) (some ((true, AV.sl Tk.imm [Kd.int IntKind.i64, Kd.int IntKind.i64] (vev12_0 tk es), [])))
  | _, _ => none
noncomputable def k12 : Gam := fun f T C => match Nat.beq f 12 with
  | true => (sp12 T C).or (k14 f T C)
  | false => k14 f T C
theorem k12_ok : GamOK Try.prog k12 := by
  intro f T C r outs h
  unfold k12 at h
  cases hf : Nat.beq f 12 with
  | false => rw [hf] at h; exact k14_ok f T C r outs h
  | true =>
    have hf' := Nat.eq_of_beq_eq_true hf
    subst hf'
    rw [hf] at h
    dsimp only at h
    cases hs : sp12 T C with
    | none => rw [hs] at h; exact k14_ok _ T C r outs h
    | some x =>
      rw [hs] at h
      have hx : x = (true, r, outs) := by simpa using h
      subst hx
      unfold sp12 at hs
      split at hs
      · rename_i tk es
        obtain ⟨hb, rfl, rfl⟩ := spT_inv hs
        have he := ev12 tk es
        rw [hb, cond_true] at he
        obtain ⟨r0, o0, h0, he⟩ := evFin_inv he
        obtain ⟨h1, h2⟩ := fn_ok mixed plain (gk_ok k14_ok 30) Try.func12 loops12 h0
        exact ⟨h1, h2.fin he⟩
      · cases hs
noncomputable def rev21_0 (tk : Tk) (es : List (List AV)) (a : Int) (b : Int) : List (List AV) := [[AV.int IntKind.i64 a, AV.int IntKind.i64 b]]
noncomputable def rev21_1 (tk : Tk) (es : List (List AV)) (a : Int) (b : Int) : List (List AV) := es ++ rev21_0 tk es a b
noncomputable def vev21_0 (tk : Tk) (es : List (List AV)) (a : Int) (b : Int) : List (List AV) := vev12_0 Tk.lent (rev21_1 tk es a b)
noncomputable def vev21_1 (tk : Tk) (es : List (List AV)) (a : Int) (b : Int) : Bool := bif bif decide (es.length * (16 : Nat) ≤ (140737488355328 : Nat)) then decide (es.length ≤ (9223372036854775807 : Nat)) else false then bif bif decide ((es.length + (rev21_0 tk es a b).length) * (16 : Nat) ≤ (140737488355328 : Nat)) then decide (es.length + (rev21_0 tk es a b).length ≤ (9223372036854775807 : Nat)) else false then bif vev12_1 Tk.lent (rev21_1 tk es a b) then true else false else false else false
theorem ev21 (tk : Tk) (es : List (List AV)) (a : Int) (b : Int) : evFin (cfg Try.prog tab 100000 (gk k12 30) noLsp 21 ([] : List Blk).length Try.f21.ntmps) ([] : List Blk).length Try.f21.resultTypes.toList Try.f21 [.sl tk [.int .i64, .int .i64] es, .agg [.int .i64 a, .int .i64 b]] [] = bif vev21_1 tk es a b then some (true, AV.sl Tk.imm [Kd.int IntKind.i64, Kd.int IntKind.i64] (vev21_0 tk es a b), []) else none := by
  have h : evFin (cfg Try.prog tab 100000 (gk k12 30) noLsp 21 ([] : List Blk).length Try.f21.ntmps) ([] : List Blk).length Try.f21.resultTypes.toList Try.f21 [.sl tk [.int .i64, .int .i64] es, .agg [.int .i64 a, .int .i64 b]] [] = bif bif decide (es.length * (16 : Nat) ≤ (140737488355328 : Nat)) then decide (es.length ≤ (9223372036854775807 : Nat)) else false then bif bif decide ((es.length + (rev21_0 tk es a b).length) * (16 : Nat) ≤ (140737488355328 : Nat)) then decide (es.length + (rev21_0 tk es a b).length ≤ (9223372036854775807 : Nat)) else false then bif vev12_1 Tk.lent (rev21_1 tk es a b) then some (true, AV.sl Tk.imm [Kd.int IntKind.i64, Kd.int IntKind.i64] (vev12_0 Tk.lent (rev21_1 tk es a b)), []) else none else none else none := by kernel_rfl
  rw [h]
  clear h
  unfold vev21_0 vev21_1
  generalize (decide ((es.length + (rev21_0 tk es a b).length) * (16 : Nat) ≤ (140737488355328 : Nat))) = c0
  generalize (decide (es.length + (rev21_0 tk es a b).length ≤ (9223372036854775807 : Nat))) = c1
  generalize (decide (es.length * (16 : Nat) ≤ (140737488355328 : Nat))) = c2
  generalize (decide (es.length ≤ (9223372036854775807 : Nat))) = c3
  generalize (vev12_1 Tk.lent (rev21_1 tk es a b)) = c4
  cases c2
  · skip
    rfl
  · skip
    cases c3
    · skip
      rfl
    · skip
      cases c0
      · skip
        rfl
      · skip
        cases c1
        · skip
          rfl
        · skip
          cases c4
          · skip
            rfl
          · skip
            rfl
-- spec vev21_1 tk es a b ;; (true, AV.sl Tk.imm [Kd.int IntKind.i64, Kd.int IntKind.i64] (vev21_0 tk es a b), [])
noncomputable def sp21 : List AV → List Blk → Option (Bool × AV × List Blk)
  | [.sl tk [.int .i64, .int .i64] es, .agg [.int .i64 a, .int .i64 b]], [] => spW (vev21_1 tk es a b) (some ((true, AV.sl Tk.imm [Kd.int IntKind.i64, Kd.int IntKind.i64] (vev21_0 tk es a b), [])))
  | _, _ => none
noncomputable def k21 : Gam := fun f T C => match Nat.beq f 21 with
  | true => (sp21 T C).or (k12 f T C)
  | false => k12 f T C
theorem k21_ok : GamOK Try.prog k21 := by
  intro f T C r outs h
  unfold k21 at h
  cases hf : Nat.beq f 21 with
  | false => rw [hf] at h; exact k12_ok f T C r outs h
  | true =>
    have hf' := Nat.eq_of_beq_eq_true hf
    subst hf'
    rw [hf] at h
    dsimp only at h
    cases hs : sp21 T C with
    | none => rw [hs] at h; exact k12_ok _ T C r outs h
    | some x =>
      rw [hs] at h
      have hx : x = (true, r, outs) := by simpa using h
      subst hx
      unfold sp21 at hs
      split at hs
      · rename_i tk es a b
        obtain ⟨hb, rfl, rfl⟩ := spT_inv hs
        have he := ev21 tk es a b
        rw [hb, cond_true] at he
        obtain ⟨r0, o0, h0, he⟩ := evFin_inv he
        obtain ⟨h1, h2⟩ := fn_ok mixed plain (gk_ok k12_ok 30) Try.func21 (fun c _ => LoopsOK.none (fun _ _ => rfl) c) h0
        exact ⟨h1, h2.fin he⟩
      · cases hs
noncomputable def go22_2 (t0k : Tk) (t0 : List (List AV)) (t1 : Int) (t5 : Int) : Bool := bif decide (t5 < (↑t0.length : Int)) then bif decide ((0 : Int) ≤ t5) && decide (t5 < (↑t0.length : Int)) then bif intOf ((t0.getD t5.toNat []).getD ((0 : Nat) + (1 : Nat)) AV.junk) == t1 then false else true else false else false
noncomputable def nx22_2_3 (t0k : Tk) (t0 : List (List AV)) (t1 : Int) (t5 : Int) : Int := IntKind.i64.wrap (t5 + (1 : Int))
noncomputable def xc22_2_0 (t0k : Tk) (t0 : List (List AV)) (t1 : Int) (t5 : Int) : Bool := bif decide (t5 < (↑t0.length : Int)) then bif decide ((0 : Int) ≤ t5) && decide (t5 < (↑t0.length : Int)) then intOf ((t0.getD t5.toNat []).getD ((0 : Nat) + (1 : Nat)) AV.junk) == t1 else false else false
noncomputable def xc22_2_1 (t0k : Tk) (t0 : List (List AV)) (t1 : Int) (t5 : Int) : Bool := bif decide (t5 < (↑t0.length : Int)) then false else true
theorem rd22_2 (rest : Lsp) (t0k : Tk) (t0 : List (List AV)) (t1 : Int) (t5 : Int) : roundV (cfg Try.prog tab 100000 (gk k21 30) rest 22 0 Try.f22.ntmps) (loopAt Try.f22 2) [0, 1, 5] [] [4] [] [AV.sl t0k [Kd.int IntKind.i64, Kd.int IntKind.i64] t0, AV.int IntKind.i64 t1, AV.int IntKind.i64 t5] [] = bif go22_2 t0k t0 t1 t5 then some (Ex.norm, [AV.sl t0k [Kd.int IntKind.i64, Kd.int IntKind.i64] t0, AV.int IntKind.i64 t1, AV.int IntKind.i64 (nx22_2_3 t0k t0 t1 t5)], []) else bif xc22_2_0 t0k t0 t1 t5 then some (Ex.ret, [AV.int IntKind.i64 t5], []) else bif xc22_2_1 t0k t0 t1 t5 then some (Ex.exit (nat_lit 0), [AV.junk], []) else none := by
  have h : roundV (cfg Try.prog tab 100000 (gk k21 30) rest 22 0 Try.f22.ntmps) (loopAt Try.f22 2) [0, 1, 5] [] [4] [] [AV.sl t0k [Kd.int IntKind.i64, Kd.int IntKind.i64] t0, AV.int IntKind.i64 t1, AV.int IntKind.i64 t5] [] = bif decide (t5 < (↑t0.length : Int)) then bif decide ((0 : Int) ≤ t5) && decide (t5 < (↑t0.length : Int)) then bif intOf ((t0.getD t5.toNat []).getD ((0 : Nat) + (1 : Nat)) AV.junk) == t1 then some (Ex.ret, [AV.int IntKind.i64 t5], []) else some (Ex.norm, [AV.sl t0k [Kd.int IntKind.i64, Kd.int IntKind.i64] t0, AV.int IntKind.i64 t1, AV.int IntKind.i64 (IntKind.i64.wrap (t5 + (1 : Int)))], []) else none else some (Ex.exit (nat_lit 0), [AV.junk], []) := by kernel_rfl
  rw [h]
  clear h
  unfold go22_2 nx22_2_3 xc22_2_0 xc22_2_1
  generalize (decide ((0 : Int) ≤ t5) && decide (t5 < (↑t0.length : Int))) = c0
  generalize (intOf ((t0.getD t5.toNat []).getD ((0 : Nat) + (1 : Nat)) AV.junk) == t1) = c1
  generalize (decide (t5 < (↑t0.length : Int))) = c2
  cases c2
  · skip
    rfl
  · skip
    cases c0
    · skip
      rfl
    · skip
      cases c1
      · skip
        rfl
      · skip
        rfl
abbrev pl22_2 : Type := Tk × (List (List AV)) × Int
abbrev sl22_2 : Type := Int
noncomputable def vt22_2 (a : pl22_2 × sl22_2) : List AV := [AV.sl a.1.1 [Kd.int IntKind.i64, Kd.int IntKind.i64] a.1.2.1, AV.int IntKind.i64 a.1.2.2, AV.int IntKind.i64 a.2]
noncomputable def vc22_2 (a : pl22_2 × sl22_2) : List Blk := []
noncomputable def de22_2 (vt : List AV) (vc : List Blk) : Option (pl22_2 × sl22_2) :=
  match vt with
  | [qa0, qa1, qa2] => (match vc with
  | [] => (match qa0 with
  | AV.sl t0k [Kd.int IntKind.i64, Kd.int IntKind.i64] t0 => (match qa1 with
  | AV.int IntKind.i64 t1 => (match qa2 with
  | AV.int IntKind.i64 t5 => (some ((t0k, t0, t1), t5))
  | _ => none)
  | _ => none)
  | _ => none)
  | _ => none)
  | _ => none
theorem de22_2_ok (vt : List AV) (vc : List Blk) (a : pl22_2 × sl22_2) (h : de22_2 vt vc = some a) : vt = vt22_2 a ∧ vc = vc22_2 a := by
  unfold de22_2 at h
  split at h
  rotate_left
  · cases h
  split at h
  rotate_left
  · cases h
  split at h
  rotate_left
  · cases h
  split at h
  rotate_left
  · cases h
  split at h
  rotate_left
  · cases h
  injection h with h
  subst h
  exact ⟨rfl, rfl⟩
noncomputable def g22_2 (p : pl22_2) (s : sl22_2) : Bool := go22_2 p.1 p.2.1 p.2.2 s
noncomputable def n22_2 (p : pl22_2) (s : sl22_2) : sl22_2 := nx22_2_3 p.1 p.2.1 p.2.2 s
noncomputable def y22_2 (p : pl22_2) (s : sl22_2) : List (Bool × Out) := [(xc22_2_0 p.1 p.2.1 p.2.2 s, (Ex.ret, [AV.int IntKind.i64 s], []))]
noncomputable def z22_2 (p : pl22_2) (s : sl22_2) : Bool := xc22_2_1 p.1 p.2.1 p.2.2 s
noncomputable def d22_2 (p : pl22_2) (s : sl22_2) : Out := (Ex.exit (nat_lit 0), [AV.junk], [])
noncomputable def ls22_2 : St → Option (Bool × List (Bool × Ex × St) × Ex × St) := lspOf [0, 1, 5] [] [4] [] Try.f22.ntmps (0 + tab.nid 22) de22_2 (spI g22_2 n22_2 y22_2 z22_2 d22_2)
theorem lo22_2 (rest : Lsp) : LoopOK1 (cfg Try.prog tab 100000 (gk k21 30) (selL 2 ls22_2 rest) 22 0 Try.f22.ntmps) (loopAt Try.f22 2) := LoopOK1.iter (i := 2) (by kernel_rfl) [0, 1, 5] [] [4] [] vt22_2 vc22_2 de22_2 g22_2 n22_2 y22_2 z22_2 d22_2 (fun _ => rfl) de22_2_ok (fun p s => rd22_2 (selL 2 ls22_2 rest) (p.1) (p.2.1) (p.2.2) s) (fun _ _ => rfl)
noncomputable def lsp22 : Lsp := (selL 2 ls22_2 noLsp)
theorem loops22 : ∀ c, Try.f22.body = some c → LoopsOK (cfg Try.prog tab 100000 (gk k21 30) lsp22 22 0 Try.f22.ntmps) c := loops_of [2] (by kernel_rfl) (by kernel_rfl) (fun i hi => by
  simp only [List.mem_cons, List.not_mem_nil, or_false] at hi
  subst hi
  · exact lo22_2 noLsp)
noncomputable def rev22_0 (tk : Tk) (es : List (List AV)) (id : Int) : sl22_2 := finL (g22_2 (tk, es, id)) (n22_2 (tk, es, id)) (0 : Int)
noncomputable def vev22_0 (tk : Tk) (es : List (List AV)) (id : Int) : sl22_2 := bif xc22_2_0 tk es id (rev22_0 tk es id) then rev22_0 tk es id else (-1 : Int)
noncomputable def vev22_1 (tk : Tk) (es : List (List AV)) (id : Int) : Bool := bif (spI g22_2 n22_2 y22_2 z22_2 d22_2 ((tk, es, id), (0 : Int))).fst then true else false
theorem ev22 (tk : Tk) (es : List (List AV)) (id : Int) : evFin (cfg Try.prog tab 100000 (gk k21 30) lsp22 22 ([] : List Blk).length Try.f22.ntmps) ([] : List Blk).length Try.f22.resultTypes.toList Try.f22 [.sl tk [.int .i64, .int .i64] es, .int .i64 id] [] = bif vev22_1 tk es id then some (true, AV.int IntKind.i64 (vev22_0 tk es id), []) else none := by
  have h : evFin (cfg Try.prog tab 100000 (gk k21 30) lsp22 22 ([] : List Blk).length Try.f22.ntmps) ([] : List Blk).length Try.f22.resultTypes.toList Try.f22 [.sl tk [.int .i64, .int .i64] es, .int .i64 id] [] = bif (spI g22_2 n22_2 y22_2 z22_2 d22_2 ((tk, es, id), (0 : Int))).fst then bif xc22_2_0 tk es id (rev22_0 tk es id) then some (true, AV.int IntKind.i64 (rev22_0 tk es id), []) else some (true, AV.int IntKind.i64 (-1 : Int), []) else none := by kernel_rfl
  rw [h]
  clear h
  unfold vev22_0 vev22_1
  generalize ((spI g22_2 n22_2 y22_2 z22_2 d22_2 ((tk, es, id), (0 : Int))).fst) = c0
  generalize (xc22_2_0 tk es id (rev22_0 tk es id)) = c1
  cases c0
  · skip
    rfl
  · skip
    cases c1
    · skip
      rfl
    · skip
      rfl
-- spec vev22_1 tk es id ;; (true, AV.int IntKind.i64 (vev22_0 tk es id), [])
noncomputable def sp22 : List AV → List Blk → Option (Bool × AV × List Blk)
  | [.sl tk [.int .i64, .int .i64] es, .int .i64 id], [] => spW (vev22_1 tk es id) (some ((true, AV.int IntKind.i64 (vev22_0 tk es id), [])))
  | _, _ => none
noncomputable def k22 : Gam := fun f T C => match Nat.beq f 22 with
  | true => (sp22 T C).or (k21 f T C)
  | false => k21 f T C
theorem k22_ok : GamOK Try.prog k22 := by
  intro f T C r outs h
  unfold k22 at h
  cases hf : Nat.beq f 22 with
  | false => rw [hf] at h; exact k21_ok f T C r outs h
  | true =>
    have hf' := Nat.eq_of_beq_eq_true hf
    subst hf'
    rw [hf] at h
    dsimp only at h
    cases hs : sp22 T C with
    | none => rw [hs] at h; exact k21_ok _ T C r outs h
    | some x =>
      rw [hs] at h
      have hx : x = (true, r, outs) := by simpa using h
      subst hx
      unfold sp22 at hs
      split at hs
      · rename_i tk es id
        obtain ⟨hb, rfl, rfl⟩ := spT_inv hs
        have he := ev22 tk es id
        rw [hb, cond_true] at he
        obtain ⟨r0, o0, h0, he⟩ := evFin_inv he
        obtain ⟨h1, h2⟩ := fn_ok mixed plain (gk_ok k21_ok 30) Try.func22 loops22 h0
        exact ⟨h1, h2.fin he⟩
      · cases hs
noncomputable def rev23_0 (tk : Tk) (es : List (List AV)) (i : Int) : Int := IntKind.i64.wrap (i + (1 : Int))
noncomputable def rev23_1 (tk : Tk) (es : List (List AV)) (i : Int) : List (List AV) := List.drop (rev23_0 tk es i).toNat es
noncomputable def vev23_0 (tk : Tk) (es : List (List AV)) (i : Int) : List (List AV) := List.take i.toNat es ++ rev23_1 tk es i
noncomputable def vev23_1 (tk : Tk) (es : List (List AV)) (i : Int) : Bool := bif bnd (0 : Int) i (↑es.length : Int) then bif bif decide ((List.take i.toNat es).length * (16 : Nat) ≤ (140737488355328 : Nat)) then decide ((List.take i.toNat es).length ≤ (9223372036854775807 : Nat)) else false then bif bnd (rev23_0 tk es i) (↑es.length : Int) (↑es.length : Int) then bif bif decide (((List.take i.toNat es).length + (rev23_1 tk es i).length) * (16 : Nat) ≤ (140737488355328 : Nat)) then decide ((List.take i.toNat es).length + (rev23_1 tk es i).length ≤ (9223372036854775807 : Nat)) else false then true else false else false else false else false
theorem ev23 (tk : Tk) (es : List (List AV)) (i : Int) : evFin (cfg Try.prog tab 100000 (gk k22 30) noLsp 23 ([] : List Blk).length Try.f23.ntmps) ([] : List Blk).length Try.f23.resultTypes.toList Try.f23 [.sl tk [.int .i64, .int .i64] es, .int .i64 i] [] = bif vev23_1 tk es i then some (true, AV.sl Tk.imm [Kd.int IntKind.i64, Kd.int IntKind.i64] (vev23_0 tk es i), []) else none := by
  have h : evFin (cfg Try.prog tab 100000 (gk k22 30) noLsp 23 ([] : List Blk).length Try.f23.ntmps) ([] : List Blk).length Try.f23.resultTypes.toList Try.f23 [.sl tk [.int .i64, .int .i64] es, .int .i64 i] [] = bif bnd (0 : Int) i (↑es.length : Int) then bif bif decide ((List.take i.toNat es).length * (16 : Nat) ≤ (140737488355328 : Nat)) then decide ((List.take i.toNat es).length ≤ (9223372036854775807 : Nat)) else false then bif bnd (rev23_0 tk es i) (↑es.length : Int) (↑es.length : Int) then bif bif decide (((List.take i.toNat es).length + (rev23_1 tk es i).length) * (16 : Nat) ≤ (140737488355328 : Nat)) then decide ((List.take i.toNat es).length + (rev23_1 tk es i).length ≤ (9223372036854775807 : Nat)) else false then some (true, AV.sl Tk.imm [Kd.int IntKind.i64, Kd.int IntKind.i64] (List.take i.toNat es ++ rev23_1 tk es i), []) else none else none else none else none := by kernel_rfl
  rw [h]
  clear h
  unfold vev23_0 vev23_1
  generalize (decide (((List.take i.toNat es).length + (rev23_1 tk es i).length) * (16 : Nat) ≤ (140737488355328 : Nat))) = c0
  generalize (decide ((List.take i.toNat es).length + (rev23_1 tk es i).length ≤ (9223372036854775807 : Nat))) = c1
  generalize (decide ((List.take i.toNat es).length * (16 : Nat) ≤ (140737488355328 : Nat))) = c2
  generalize (decide ((List.take i.toNat es).length ≤ (9223372036854775807 : Nat))) = c3
  generalize (bnd (rev23_0 tk es i) (↑es.length : Int) (↑es.length : Int)) = c4
  generalize (bnd (0 : Int) i (↑es.length : Int)) = c5
  cases c5
  · skip
    rfl
  · skip
    cases c2
    · skip
      rfl
    · skip
      cases c3
      · skip
        rfl
      · skip
        cases c4
        · skip
          rfl
        · skip
          cases c0
          · skip
            rfl
          · skip
            cases c1
            · skip
              rfl
            · skip
              rfl
-- spec vev23_1 tk es i ;; (true, AV.sl Tk.imm [Kd.int IntKind.i64, Kd.int IntKind.i64] (vev23_0 tk es i), [])
noncomputable def sp23 : List AV → List Blk → Option (Bool × AV × List Blk)
  | [.sl tk [.int .i64, .int .i64] es, .int .i64 i], [] => spW (vev23_1 tk es i) (some ((true, AV.sl Tk.imm [Kd.int IntKind.i64, Kd.int IntKind.i64] (vev23_0 tk es i), [])))
  | _, _ => none
noncomputable def k23 : Gam := fun f T C => match Nat.beq f 23 with
  | true => (sp23 T C).or (k22 f T C)
  | false => k22 f T C
theorem k23_ok : GamOK Try.prog k23 := by
  intro f T C r outs h
  unfold k23 at h
  cases hf : Nat.beq f 23 with
  | false => rw [hf] at h; exact k22_ok f T C r outs h
  | true =>
    have hf' := Nat.eq_of_beq_eq_true hf
    subst hf'
    rw [hf] at h
    dsimp only at h
    cases hs : sp23 T C with
    | none => rw [hs] at h; exact k22_ok _ T C r outs h
    | some x =>
      rw [hs] at h
      have hx : x = (true, r, outs) := by simpa using h
      subst hx
      unfold sp23 at hs
      split at hs
      · rename_i tk es i
        obtain ⟨hb, rfl, rfl⟩ := spT_inv hs
        have he := ev23 tk es i
        rw [hb, cond_true] at he
        obtain ⟨r0, o0, h0, he⟩ := evFin_inv he
        obtain ⟨h1, h2⟩ := fn_ok mixed plain (gk_ok k22_ok 30) Try.func23 (fun c _ => LoopsOK.none (fun _ _ => rfl) c) h0
        exact ⟨h1, h2.fin he⟩
      · cases hs
noncomputable def go9_4 (t0k : Tk) (t0 : List (List AV)) (t1k : Tk) (t1 : List (List AV)) (t5 : Int) : Bool := bif decide (t5 < (↑t0.length : Int)) then bif decide ((0 : Int) ≤ t5) && decide (t5 < (↑t0.length : Int)) then bif decide ((0 : Int) ≤ t5) && decide (t5 < (↑t1.length : Int)) then bif !(intOf ((t0.getD t5.toNat []).getD (0 : Nat) AV.junk) == intOf ((t1.getD t5.toNat []).getD (0 : Nat) AV.junk) && (intOf ((t0.getD t5.toNat []).getD ((0 : Nat) + (1 : Nat)) AV.junk) == intOf ((t1.getD t5.toNat []).getD ((0 : Nat) + (1 : Nat)) AV.junk) && true)) then false else true else false else false else false
noncomputable def nx9_4_4 (t0k : Tk) (t0 : List (List AV)) (t1k : Tk) (t1 : List (List AV)) (t5 : Int) : Int := IntKind.i64.wrap (t5 + (1 : Int))
noncomputable def xc9_4_0 (t0k : Tk) (t0 : List (List AV)) (t1k : Tk) (t1 : List (List AV)) (t5 : Int) : Bool := bif decide (t5 < (↑t0.length : Int)) then bif decide ((0 : Int) ≤ t5) && decide (t5 < (↑t0.length : Int)) then bif decide ((0 : Int) ≤ t5) && decide (t5 < (↑t1.length : Int)) then !(intOf ((t0.getD t5.toNat []).getD (0 : Nat) AV.junk) == intOf ((t1.getD t5.toNat []).getD (0 : Nat) AV.junk) && (intOf ((t0.getD t5.toNat []).getD ((0 : Nat) + (1 : Nat)) AV.junk) == intOf ((t1.getD t5.toNat []).getD ((0 : Nat) + (1 : Nat)) AV.junk) && true)) else false else false else false
noncomputable def xc9_4_1 (t0k : Tk) (t0 : List (List AV)) (t1k : Tk) (t1 : List (List AV)) (t5 : Int) : Bool := bif decide (t5 < (↑t0.length : Int)) then false else true
theorem rd9_4 (rest : Lsp) (t0k : Tk) (t0 : List (List AV)) (t1k : Tk) (t1 : List (List AV)) (t5 : Int) : roundV (cfg Try.prog tab 100000 (gk k23 30) rest 9 0 Try.f9.ntmps) (loopAt Try.f9 4) [0, 1, 5] [] [4] [] [AV.sl t0k [Kd.int IntKind.i64, Kd.int IntKind.i64] t0, AV.sl t1k [Kd.int IntKind.i64, Kd.int IntKind.i64] t1, AV.int IntKind.i64 t5] [] = bif go9_4 t0k t0 t1k t1 t5 then some (Ex.norm, [AV.sl t0k [Kd.int IntKind.i64, Kd.int IntKind.i64] t0, AV.sl t1k [Kd.int IntKind.i64, Kd.int IntKind.i64] t1, AV.int IntKind.i64 (nx9_4_4 t0k t0 t1k t1 t5)], []) else bif xc9_4_0 t0k t0 t1k t1 t5 then some (Ex.ret, [AV.bool false], []) else bif xc9_4_1 t0k t0 t1k t1 t5 then some (Ex.exit (nat_lit 0), [AV.junk], []) else none := by
  have h : roundV (cfg Try.prog tab 100000 (gk k23 30) rest 9 0 Try.f9.ntmps) (loopAt Try.f9 4) [0, 1, 5] [] [4] [] [AV.sl t0k [Kd.int IntKind.i64, Kd.int IntKind.i64] t0, AV.sl t1k [Kd.int IntKind.i64, Kd.int IntKind.i64] t1, AV.int IntKind.i64 t5] [] = bif decide (t5 < (↑t0.length : Int)) then bif decide ((0 : Int) ≤ t5) && decide (t5 < (↑t0.length : Int)) then bif decide ((0 : Int) ≤ t5) && decide (t5 < (↑t1.length : Int)) then bif !(intOf ((t0.getD t5.toNat []).getD (0 : Nat) AV.junk) == intOf ((t1.getD t5.toNat []).getD (0 : Nat) AV.junk) && (intOf ((t0.getD t5.toNat []).getD ((0 : Nat) + (1 : Nat)) AV.junk) == intOf ((t1.getD t5.toNat []).getD ((0 : Nat) + (1 : Nat)) AV.junk) && true)) then some (Ex.ret, [AV.bool false], []) else some (Ex.norm, [AV.sl t0k [Kd.int IntKind.i64, Kd.int IntKind.i64] t0, AV.sl t1k [Kd.int IntKind.i64, Kd.int IntKind.i64] t1, AV.int IntKind.i64 (IntKind.i64.wrap (t5 + (1 : Int)))], []) else none else none else some (Ex.exit (nat_lit 0), [AV.junk], []) := by kernel_rfl
  rw [h]
  clear h
  unfold go9_4 nx9_4_4 xc9_4_0 xc9_4_1
  generalize (!(intOf ((t0.getD t5.toNat []).getD (0 : Nat) AV.junk) == intOf ((t1.getD t5.toNat []).getD (0 : Nat) AV.junk) && (intOf ((t0.getD t5.toNat []).getD ((0 : Nat) + (1 : Nat)) AV.junk) == intOf ((t1.getD t5.toNat []).getD ((0 : Nat) + (1 : Nat)) AV.junk) && true))) = c0
  generalize (decide ((0 : Int) ≤ t5) && decide (t5 < (↑t0.length : Int))) = c1
  generalize (decide ((0 : Int) ≤ t5) && decide (t5 < (↑t1.length : Int))) = c2
  generalize (decide (t5 < (↑t0.length : Int))) = c3
  cases c3
  · skip
    rfl
  · skip
    cases c1
    · skip
      rfl
    · skip
      cases c2
      · skip
        rfl
      · skip
        cases c0
        · skip
          rfl
        · skip
          rfl
abbrev pl9_4 : Type := Tk × (List (List AV)) × Tk × (List (List AV))
abbrev sl9_4 : Type := Int
noncomputable def vt9_4 (a : pl9_4 × sl9_4) : List AV := [AV.sl a.1.1 [Kd.int IntKind.i64, Kd.int IntKind.i64] a.1.2.1, AV.sl a.1.2.2.1 [Kd.int IntKind.i64, Kd.int IntKind.i64] a.1.2.2.2, AV.int IntKind.i64 a.2]
noncomputable def vc9_4 (a : pl9_4 × sl9_4) : List Blk := []
noncomputable def de9_4 (vt : List AV) (vc : List Blk) : Option (pl9_4 × sl9_4) :=
  match vt with
  | [qa0, qa1, qa2] => (match vc with
  | [] => (match qa0 with
  | AV.sl t0k [Kd.int IntKind.i64, Kd.int IntKind.i64] t0 => (match qa1 with
  | AV.sl t1k [Kd.int IntKind.i64, Kd.int IntKind.i64] t1 => (match qa2 with
  | AV.int IntKind.i64 t5 => (some ((t0k, t0, t1k, t1), t5))
  | _ => none)
  | _ => none)
  | _ => none)
  | _ => none)
  | _ => none
theorem de9_4_ok (vt : List AV) (vc : List Blk) (a : pl9_4 × sl9_4) (h : de9_4 vt vc = some a) : vt = vt9_4 a ∧ vc = vc9_4 a := by
  unfold de9_4 at h
  split at h
  rotate_left
  · cases h
  split at h
  rotate_left
  · cases h
  split at h
  rotate_left
  · cases h
  split at h
  rotate_left
  · cases h
  split at h
  rotate_left
  · cases h
  injection h with h
  subst h
  exact ⟨rfl, rfl⟩
noncomputable def g9_4 (p : pl9_4) (s : sl9_4) : Bool := go9_4 p.1 p.2.1 p.2.2.1 p.2.2.2 s
noncomputable def n9_4 (p : pl9_4) (s : sl9_4) : sl9_4 := nx9_4_4 p.1 p.2.1 p.2.2.1 p.2.2.2 s
noncomputable def y9_4 (p : pl9_4) (s : sl9_4) : List (Bool × Out) := [(xc9_4_0 p.1 p.2.1 p.2.2.1 p.2.2.2 s, (Ex.ret, [AV.bool false], []))]
noncomputable def z9_4 (p : pl9_4) (s : sl9_4) : Bool := xc9_4_1 p.1 p.2.1 p.2.2.1 p.2.2.2 s
noncomputable def d9_4 (p : pl9_4) (s : sl9_4) : Out := (Ex.exit (nat_lit 0), [AV.junk], [])
noncomputable def ls9_4 : St → Option (Bool × List (Bool × Ex × St) × Ex × St) := lspOf [0, 1, 5] [] [4] [] Try.f9.ntmps (0 + tab.nid 9) de9_4 (spI g9_4 n9_4 y9_4 z9_4 d9_4)
theorem lo9_4 (rest : Lsp) : LoopOK1 (cfg Try.prog tab 100000 (gk k23 30) (selL 4 ls9_4 rest) 9 0 Try.f9.ntmps) (loopAt Try.f9 4) := LoopOK1.iter (i := 4) (by kernel_rfl) [0, 1, 5] [] [4] [] vt9_4 vc9_4 de9_4 g9_4 n9_4 y9_4 z9_4 d9_4 (fun _ => rfl) de9_4_ok (fun p s => rd9_4 (selL 4 ls9_4 rest) (p.1) (p.2.1) (p.2.2.1) (p.2.2.2) s) (fun _ _ => rfl)
noncomputable def lsp9 : Lsp := (selL 4 ls9_4 noLsp)
theorem loops9 : ∀ c, Try.f9.body = some c → LoopsOK (cfg Try.prog tab 100000 (gk k23 30) lsp9 9 0 Try.f9.ntmps) c := loops_of [4] (by kernel_rfl) (by kernel_rfl) (fun i hi => by
  simp only [List.mem_cons, List.not_mem_nil, or_false] at hi
  subst hi
  · exact lo9_4 noLsp)
noncomputable def rev9_0 (tk : Tk) (es : List (List AV)) (tk2 : Tk) (es2 : List (List AV)) : sl9_4 := finL (g9_4 (tk, es, tk2, es2)) (n9_4 (tk, es, tk2, es2)) (0 : Int)
noncomputable def vev9_0 (tk : Tk) (es : List (List AV)) (tk2 : Tk) (es2 : List (List AV)) : Bool := bif (↑es.length : Int) != (↑es2.length : Int) then false else bif xc9_4_0 tk es tk2 es2 (rev9_0 tk es tk2 es2) then false else true
noncomputable def vev9_1 (tk : Tk) (es : List (List AV)) (tk2 : Tk) (es2 : List (List AV)) : Bool := bif (↑es.length : Int) != (↑es2.length : Int) then true else bif (spI g9_4 n9_4 y9_4 z9_4 d9_4 ((tk, es, tk2, es2), (0 : Int))).fst then true else false
theorem ev9 (tk : Tk) (es : List (List AV)) (tk2 : Tk) (es2 : List (List AV)) : evFin (cfg Try.prog tab 100000 (gk k23 30) lsp9 9 ([] : List Blk).length Try.f9.ntmps) ([] : List Blk).length Try.f9.resultTypes.toList Try.f9 [.sl tk [.int .i64, .int .i64] es, .sl tk2 [.int .i64, .int .i64] es2] [] = bif vev9_1 tk es tk2 es2 then some (true, AV.bool (vev9_0 tk es tk2 es2), []) else none := by
  have h : evFin (cfg Try.prog tab 100000 (gk k23 30) lsp9 9 ([] : List Blk).length Try.f9.ntmps) ([] : List Blk).length Try.f9.resultTypes.toList Try.f9 [.sl tk [.int .i64, .int .i64] es, .sl tk2 [.int .i64, .int .i64] es2] [] = bif (↑es.length : Int) != (↑es2.length : Int) then some (true, AV.bool false, []) else bif (spI g9_4 n9_4 y9_4 z9_4 d9_4 ((tk, es, tk2, es2), (0 : Int))).fst then bif xc9_4_0 tk es tk2 es2 (rev9_0 tk es tk2 es2) then some (true, AV.bool false, []) else some (true, AV.bool true, []) else none := by kernel_rfl
  rw [h]
  clear h
  unfold vev9_0 vev9_1
  generalize ((spI g9_4 n9_4 y9_4 z9_4 d9_4 ((tk, es, tk2, es2), (0 : Int))).fst) = c0
  generalize ((↑es.length : Int) != (↑es2.length : Int)) = c1
  generalize (xc9_4_0 tk es tk2 es2 (rev9_0 tk es tk2 es2)) = c2
  cases c1
  · skip
    cases c0
    · skip
      rfl
    · skip
      cases c2
      · skip
        rfl
      · skip
        rfl
  · skip
    rfl
-- spec vev9_1 tk es tk2 es2 ;; (true, AV.bool (vev9_0 tk es tk2 es2), [])
noncomputable def sp9 : List AV → List Blk → Option (Bool × AV × List Blk)
  | [.sl tk [.int .i64, .int .i64] es, .sl tk2 [.int .i64, .int .i64] es2], [] => spW (vev9_1 tk es tk2 es2) (some ((true, AV.bool (vev9_0 tk es tk2 es2), [])))
  | _, _ => none
noncomputable def k9 : Gam := fun f T C => match Nat.beq f 9 with
  | true => (sp9 T C).or (k23 f T C)
  | false => k23 f T C
theorem k9_ok : GamOK Try.prog k9 := by
  intro f T C r outs h
  unfold k9 at h
  cases hf : Nat.beq f 9 with
  | false => rw [hf] at h; exact k23_ok f T C r outs h
  | true =>
    have hf' := Nat.eq_of_beq_eq_true hf
    subst hf'
    rw [hf] at h
    dsimp only at h
    cases hs : sp9 T C with
    | none => rw [hs] at h; exact k23_ok _ T C r outs h
    | some x =>
      rw [hs] at h
      have hx : x = (true, r, outs) := by simpa using h
      subst hx
      unfold sp9 at hs
      split at hs
      · rename_i tk es tk2 es2
        obtain ⟨hb, rfl, rfl⟩ := spT_inv hs
        have he := ev9 tk es tk2 es2
        rw [hb, cond_true] at he
        obtain ⟨r0, o0, h0, he⟩ := evFin_inv he
        obtain ⟨h1, h2⟩ := fn_ok mixed plain (gk_ok k23_ok 30) Try.func9 loops9 h0
        exact ⟨h1, h2.fin he⟩
      · cases hs
end Go.Proofs.Gv
