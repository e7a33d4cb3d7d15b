import Derived.Test.YtcnbeijlcndjpaaGt
import Derived.KernelRfl
import Derived.Test.YtcnbeijlcndjpaaGwF
import Derived.Test.YtcnbeijlcndjpaaGaSp2
namespace Go.Proofs.Gv
open Go.Proofs
set_option linter.unusedVariables false
noncomputable def go22t_3 (t0k : Tk) (t0 : List (List AV)) (t4 : Int) (b1 : List (List AV)) : Bool := bif decide (t4 < (↑t0.length : Int)) then bif decide ((0 : Int) ≤ t4) && decide (t4 < (↑t0.length : Int)) then bif decide ((b1.length + (1 : Nat)) * (40 : Nat) ≤ (140737488355328 : Nat)) then decide (b1.length + (1 : Nat) ≤ (9223372036854775807 : Nat)) else false else false else false
noncomputable def nx22t_3_2 (t0k : Tk) (t0 : List (List AV)) (t4 : Int) (b1 : List (List AV)) : Int := IntKind.i64.wrap (t4 + (1 : Int))
noncomputable def nx22t_3_3 (t0k : Tk) (t0 : List (List AV)) (t4 : Int) (b1 : List (List AV)) : List (List AV) := b1 ++ [[AV.int IntKind.i64 (intOf ((t0.getD t4.toNat []).getD (0 : Nat) AV.junk)), AV.int IntKind.u8 (intOf ((t0.getD t4.toNat []).getD ((0 : Nat) + (1 : Nat)) AV.junk)), AV.int IntKind.u8 (intOf ((t0.getD t4.toNat []).getD ((0 : Nat) + (1 : Nat) + (1 : Nat)) AV.junk)), AV.int IntKind.i64 (intOf ((t0.getD t4.toNat []).getD ((0 : Nat) + (1 : Nat) + (1 : Nat) + (1 : Nat)) AV.junk)), AV.str (strOf ((t0.getD t4.toNat []).getD ((0 : Nat) + (1 : Nat) + (1 : Nat) + (1 : Nat) + (1 : Nat)) AV.junk))]]
noncomputable def xc22t_3_0 (t0k : Tk) (t0 : List (List AV)) (t4 : Int) (b1 : List (List AV)) : Bool := bif decide (t4 < (↑t0.length : Int)) then false else true
theorem rd22t_3 (rest : Lsp) (t0k : Tk) (t0 : List (List AV)) (t4 : Int) (b1 : List (List AV)) : roundV (cfg Try.prog tab 100000 (gk k18 30) rest 22 0 Try.f22.ntmps) (loopAt Try.f22 3) [0, 3, 4] [0, 1] [3] [0, 1] [AV.sl t0k [Kd.int IntKind.i64, Kd.int IntKind.u8, Kd.int IntKind.u8, Kd.int IntKind.i64, Kd.str] t0, AV.rf (nat_lit 1) [Kd.int IntKind.i64, Kd.int IntKind.u8, Kd.int IntKind.u8, Kd.int IntKind.i64, Kd.str], AV.int IntKind.i64 t4] [Blk.dead, Blk.row [Kd.int IntKind.i64, Kd.int IntKind.u8, Kd.int IntKind.u8, Kd.int IntKind.i64, Kd.str] b1] = bif go22t_3 t0k t0 t4 b1 then some (Ex.norm, [AV.sl t0k [Kd.int IntKind.i64, Kd.int IntKind.u8, Kd.int IntKind.u8, Kd.int IntKind.i64, Kd.str] t0, AV.rf (nat_lit 1) [Kd.int IntKind.i64, Kd.int IntKind.u8, Kd.int IntKind.u8, Kd.int IntKind.i64, Kd.str], AV.int IntKind.i64 (nx22t_3_2 t0k t0 t4 b1)], [Blk.dead, Blk.row [Kd.int IntKind.i64, Kd.int IntKind.u8, Kd.int IntKind.u8, Kd.int IntKind.i64, Kd.str] (nx22t_3_3 t0k t0 t4 b1)]) else bif xc22t_3_0 t0k t0 t4 b1 then some (Ex.exit (nat_lit 0), [AV.rf (nat_lit 1) [Kd.int IntKind.i64, Kd.int IntKind.u8, Kd.int IntKind.u8, Kd.int IntKind.i64, Kd.str]], [Blk.dead, Blk.row [Kd.int IntKind.i64, Kd.int IntKind.u8, Kd.int IntKind.u8, Kd.int IntKind.i64, Kd.str] b1]) else none := by
  have h : roundV (cfg Try.prog tab 100000 (gk k18 30) rest 22 0 Try.f22.ntmps) (loopAt Try.f22 3) [0, 3, 4] [0, 1] [3] [0, 1] [AV.sl t0k [Kd.int IntKind.i64, Kd.int IntKind.u8, Kd.int IntKind.u8, Kd.int IntKind.i64, Kd.str] t0, AV.rf (nat_lit 1) [Kd.int IntKind.i64, Kd.int IntKind.u8, Kd.int IntKind.u8, Kd.int IntKind.i64, Kd.str], AV.int IntKind.i64 t4] [Blk.dead, Blk.row [Kd.int IntKind.i64, Kd.int IntKind.u8, Kd.int IntKind.u8, Kd.int IntKind.i64, Kd.str] b1] = bif decide (t4 < (↑t0.length : Int)) then bif decide ((0 : Int) ≤ t4) && decide (t4 < (↑t0.length : Int)) then bif decide ((0 : Int) ≤ t4) && decide (t4 < (↑t0.length : Int)) then bif bif decide ((b1.length + (1 : Nat)) * (40 : Nat) ≤ (140737488355328 : Nat)) then decide (b1.length + (1 : Nat) ≤ (9223372036854775807 : Nat)) else false then some (Ex.norm, [AV.sl t0k [Kd.int IntKind.i64, Kd.int IntKind.u8, Kd.int IntKind.u8, Kd.int IntKind.i64, Kd.str] t0, AV.rf (nat_lit 1) [Kd.int IntKind.i64, Kd.int IntKind.u8, Kd.int IntKind.u8, Kd.int IntKind.i64, Kd.str], AV.int IntKind.i64 (IntKind.i64.wrap (t4 + (1 : Int)))], [Blk.dead, Blk.row [Kd.int IntKind.i64, Kd.int IntKind.u8, Kd.int IntKind.u8, Kd.int IntKind.i64, Kd.str] (b1 ++ [[AV.int IntKind.i64 (intOf ((t0.getD t4.toNat []).getD (0 : Nat) AV.junk)), AV.int IntKind.u8 (intOf ((t0.getD t4.toNat []).getD ((0 : Nat) + (1 : Nat)) AV.junk)), AV.int IntKind.u8 (intOf ((t0.getD t4.toNat []).getD ((0 : Nat) + (1 : Nat) + (1 : Nat)) AV.junk)), AV.int IntKind.i64 (intOf ((t0.getD t4.toNat []).getD ((0 : Nat) + (1 : Nat) + (1 : Nat) + (1 : Nat)) AV.junk)), AV.str (strOf ((t0.getD t4.toNat []).getD ((0 : Nat) + (1 : Nat) + (1 : Nat) + (1 : Nat) + (1 : Nat)) AV.junk))]])]) else none else none else none else some (Ex.exit (nat_lit 0), [AV.rf (nat_lit 1) [Kd.int IntKind.i64, Kd.int IntKind.u8, Kd.int IntKind.u8, Kd.int IntKind.i64, Kd.str]], [Blk.dead, Blk.row [Kd.int IntKind.i64, Kd.int IntKind.u8, Kd.int IntKind.u8, Kd.int IntKind.i64, Kd.str] b1]) := by kernel_rfl
  rw [h]
  clear h
  unfold go22t_3 nx22t_3_2 nx22t_3_3 xc22t_3_0
  generalize (decide ((b1.length + (1 : Nat)) * (40 : Nat) ≤ (140737488355328 : Nat))) = c0
  generalize (decide (b1.length + (1 : Nat) ≤ (9223372036854775807 : Nat))) = c1
  generalize (decide ((0 : Int) ≤ t4) && decide (t4 < (↑t0.length : Int))) = c2
  generalize (decide (t4 < (↑t0.length : Int))) = c3
  cases c3
  · skip
    rfl
  · skip
    cases c2
    · skip
      rfl
    · skip
      cases c0
      · skip
        rfl
      · skip
        cases c1
        · skip
          rfl
        · skip
          rfl
abbrev pl22t_3 : Type := Tk × (List (List AV))
abbrev sl22t_3 : Type := Int × (List (List AV))
noncomputable def vt22t_3 (a : pl22t_3 × sl22t_3) : List AV := [AV.sl a.1.1 [Kd.int IntKind.i64, Kd.int IntKind.u8, Kd.int IntKind.u8, Kd.int IntKind.i64, Kd.str] a.1.2, AV.rf (nat_lit 1) [Kd.int IntKind.i64, Kd.int IntKind.u8, Kd.int IntKind.u8, Kd.int IntKind.i64, Kd.str], AV.int IntKind.i64 a.2.1]
noncomputable def vc22t_3 (a : pl22t_3 × sl22t_3) : List Blk := [Blk.dead, Blk.row [Kd.int IntKind.i64, Kd.int IntKind.u8, Kd.int IntKind.u8, Kd.int IntKind.i64, Kd.str] a.2.2]
noncomputable def de22t_3 (vt : List AV) (vc : List Blk) : Option (pl22t_3 × sl22t_3) :=
  match vt with
  | [qa0, qa1, qa2] => (match vc with
  | [qb0, qb1] => (match qa0 with
  | AV.sl t0k [Kd.int IntKind.i64, Kd.int IntKind.u8, Kd.int IntKind.u8, Kd.int IntKind.i64, Kd.str] t0 => (match qa1 with
  | AV.rf (1) [Kd.int IntKind.i64, Kd.int IntKind.u8, Kd.int IntKind.u8, Kd.int IntKind.i64, Kd.str] => (match qa2 with
  | AV.int IntKind.i64 t4 => (match qb0 with
  | Blk.dead => (match qb1 with
  | Blk.row [Kd.int IntKind.i64, Kd.int IntKind.u8, Kd.int IntKind.u8, Kd.int IntKind.i64, Kd.str] b1 => (some ((t0k, t0), (t4, b1)))
  | _ => none)
  | _ => none)
  | _ => none)
  | _ => none)
  | _ => none)
  | _ => none)
  | _ => none
theorem de22t_3_ok (vt : List AV) (vc : List Blk) (a : pl22t_3 × sl22t_3) (h : de22t_3 vt vc = some a) : vt = vt22t_3 a ∧ vc = vc22t_3 a := by
  unfold de22t_3 at h
  split at h
  rotate_left
  · cases h
  split at h
  rotate_left
  · cases h
  split at h
  rotate_left
  · cases h
  split at h
  rotate_left
  · cases h
  split at h
  rotate_left
  · cases h
  split at h
  rotate_left
  · cases h
  split at h
  rotate_left
  · cases h
  injection h with h
  subst h
  exact ⟨rfl, rfl⟩
noncomputable def g22t_3 (p : pl22t_3) (s : sl22t_3) : Bool := go22t_3 p.1 p.2 s.1 s.2
noncomputable def n22t_3 (p : pl22t_3) (s : sl22t_3) : sl22t_3 := (nx22t_3_2 p.1 p.2 s.1 s.2, nx22t_3_3 p.1 p.2 s.1 s.2)
noncomputable def y22t_3 (p : pl22t_3) (s : sl22t_3) : List (Bool × Out) := []
noncomputable def z22t_3 (p : pl22t_3) (s : sl22t_3) : Bool := xc22t_3_0 p.1 p.2 s.1 s.2
noncomputable def d22t_3 (p : pl22t_3) (s : sl22t_3) : Out := (Ex.exit (nat_lit 0), [AV.rf (nat_lit 1) [Kd.int IntKind.i64, Kd.int IntKind.u8, Kd.int IntKind.u8, Kd.int IntKind.i64, Kd.str]], [Blk.dead, Blk.row [Kd.int IntKind.i64, Kd.int IntKind.u8, Kd.int IntKind.u8, Kd.int IntKind.i64, Kd.str] s.2])
noncomputable def ls22t_3 : St → Option (Bool × List (Bool × Ex × St) × Ex × St) := lspOf [0, 3, 4] [0, 1] [3] [0, 1] Try.f22.ntmps (0 + tab.nid 22) de22t_3 (spI g22t_3 n22t_3 y22t_3 z22t_3 d22t_3)
theorem lo22t_3 (rest : Lsp) : LoopOK1 (cfg Try.prog tab 100000 (gk k18 30) (selL 3 ls22t_3 rest) 22 0 Try.f22.ntmps) (loopAt Try.f22 3) := LoopOK1.iter (i := 3) (by kernel_rfl) [0, 3, 4] [0, 1] [3] [0, 1] vt22t_3 vc22t_3 de22t_3 g22t_3 n22t_3 y22t_3 z22t_3 d22t_3 (fun _ => rfl) de22t_3_ok (fun p s => rd22t_3 (selL 3 ls22t_3 rest) (p.1) (p.2) (s.1) (s.2)) (fun _ _ => rfl)
noncomputable def lsp22t : Lsp := (selL 3 ls22t_3 noLsp)
theorem loops22t : ∀ c, Try.f22.body = some c → LoopsOK (cfg Try.prog tab 100000 (gk k18 30) lsp22t 22 0 Try.f22.ntmps) c := loops_of [3] (by kernel_rfl) (by kernel_rfl) (fun i hi => by
  simp only [List.mem_cons, List.not_mem_nil, or_false] at hi
  subst hi
  · exact lo22t_3 noLsp)
noncomputable def rev22t_0 (tk : Tk) (es : List (List AV)) : sl22t_3 := finL (g22t_3 (tk, es)) (n22t_3 (tk, es)) ((0 : Int), [])
noncomputable def vev22t_0 (tk : Tk) (es : List (List AV)) : List (List AV) := (rev22t_0 tk es).snd
noncomputable def vev22t_1 (tk : Tk) (es : List (List AV)) : Bool := bif (spI g22t_3 n22t_3 y22t_3 z22t_3 d22t_3 ((tk, es), (0 : Int), [])).fst then true else false
theorem ev22t (tk : Tk) (es : List (List AV)) : evFin (cfg Try.prog tab 100000 (gk k18 30) lsp22t 22 ([] : List Blk).length Try.f22.ntmps) ([] : List Blk).length Try.f22.resultTypes.toList Try.f22 [.sl tk [.int .i64, .int .u8, .int .u8, .int .i64, .str] es] [] = bif vev22t_1 tk es then some (true, AV.sl Tk.imm [Kd.int IntKind.i64, Kd.int IntKind.u8, Kd.int IntKind.u8, Kd.int IntKind.i64, Kd.str] (vev22t_0 tk es), []) else none := by
  have h : evFin (cfg Try.prog tab 100000 (gk k18 30) lsp22t 22 ([] : List Blk).length Try.f22.ntmps) ([] : List Blk).length Try.f22.resultTypes.toList Try.f22 [.sl tk [.int .i64, .int .u8, .int .u8, .int .i64, .str] es] [] = bif (spI g22t_3 n22t_3 y22t_3 z22t_3 d22t_3 ((tk, es), (0 : Int), [])).fst then some (true, AV.sl Tk.imm [Kd.int IntKind.i64, Kd.int IntKind.u8, Kd.int IntKind.u8, Kd.int IntKind.i64, Kd.str] (rev22t_0 tk es).snd, []) else none := by kernel_rfl
  rw [h]
  clear h
  unfold vev22t_0 vev22t_1
  generalize ((spI g22t_3 n22t_3 y22t_3 z22t_3 d22t_3 ((tk, es), (0 : Int), [])).fst) = c0
  cases c0
  · skip
    rfl
  · skip
    rfl
-- spec vev22t_1 tk es ;; (true, AV.sl Tk.imm [Kd.int IntKind.i64, Kd.int IntKind.u8, Kd.int IntKind.u8, Kd.int IntKind.i64, Kd.str] (vev22t_0 tk es), [])
noncomputable def sp22t : List AV → List Blk → Option (Bool × AV × List Blk)
  | [.sl tk [.int .i64, .int .u8, .int .u8, .int .i64, .str] es], [] => spW (vev22t_1 tk es) (some ((true, AV.sl Tk.imm [Kd.int IntKind.i64, Kd.int IntKind.u8, Kd.int IntKind.u8, Kd.int IntKind.i64, Kd.str] (vev22t_0 tk es), [])))
  | _, _ => none
noncomputable def k22t : Gam := fun f T C => match Nat.beq f 22 with
  | true => (sp22t T C).or (k18 f T C)
  | false => k18 f T C
theorem k22t_ok : GamOK Try.prog k22t := by
  intro f T C r outs h
  unfold k22t at h
  cases hf : Nat.beq f 22 with
  | false => rw [hf] at h; exact k18_ok f T C r outs h
  | true =>
    have hf' := Nat.eq_of_beq_eq_true hf
    subst hf'
    rw [hf] at h
    dsimp only at h
    cases hs : sp22t T C with
    | none => rw [hs] at h; exact k18_ok _ T C r outs h
    | some x =>
      rw [hs] at h
      have hx : x = (true, r, outs) := by simpa using h
      subst hx
      unfold sp22t at hs
      split at hs
      · rename_i tk es
        obtain ⟨hb, rfl, rfl⟩ := spT_inv hs
        have he := ev22t tk es
        rw [hb, cond_true] at he
        obtain ⟨r0, o0, h0, he⟩ := evFin_inv he
        obtain ⟨h1, h2⟩ := fn_ok mixed plain (gk_ok k18_ok 30) Try.func22 loops22t h0
        exact ⟨h1, h2.fin he⟩
      · cases hs
end Go.Proofs.Gv
