import Derived.Test.YtndephedgodneaaGt
import Derived.KernelRfl
import Derived.Test.YtndephedgodneaaGwF
import Derived.Test.YtndephedgodneaaGaFr2
namespace Go.Proofs.Gv
open Go.Proofs
set_option linter.unusedVariables false
noncomputable def go44_4 (t0k : Tk) (t0 : List (List AV)) (t1k : Tk) (t1 : List (List AV)) (t5 : Int) : Bool := bif decide (t5 < (↑t0.length : Int)) then bif decide ((0 : Int) ≤ t5) && decide (t5 < (↑t0.length : Int)) then bif decide ((0 : Int) ≤ t5) && decide (t5 < (↑t1.length : Int)) then bif !(intOf ((t0.getD t5.toNat []).getD (0 : Nat) AV.junk) == intOf ((t1.getD t5.toNat []).getD (0 : Nat) AV.junk) && (intOf ((t0.getD t5.toNat []).getD ((0 : Nat) + (1 : Nat)) AV.junk) == intOf ((t1.getD t5.toNat []).getD ((0 : Nat) + (1 : Nat)) AV.junk) && true)) then false else true else false else false else false
noncomputable def nx44_4_4 (t0k : Tk) (t0 : List (List AV)) (t1k : Tk) (t1 : List (List AV)) (t5 : Int) : Int := IntKind.i64.wrap (t5 + (1 : Int))
noncomputable def xc44_4_0 (t0k : Tk) (t0 : List (List AV)) (t1k : Tk) (t1 : List (List AV)) (t5 : Int) : Bool := bif decide (t5 < (↑t0.length : Int)) then bif decide ((0 : Int) ≤ t5) && decide (t5 < (↑t0.length : Int)) then bif decide ((0 : Int) ≤ t5) && decide (t5 < (↑t1.length : Int)) then !(intOf ((t0.getD t5.toNat []).getD (0 : Nat) AV.junk) == intOf ((t1.getD t5.toNat []).getD (0 : Nat) AV.junk) && (intOf ((t0.getD t5.toNat []).getD ((0 : Nat) + (1 : Nat)) AV.junk) == intOf ((t1.getD t5.toNat []).getD ((0 : Nat) + (1 : Nat)) AV.junk) && true)) else false else false else false
noncomputable def xc44_4_1 (t0k : Tk) (t0 : List (List AV)) (t1k : Tk) (t1 : List (List AV)) (t5 : Int) : Bool := bif decide (t5 < (↑t0.length : Int)) then false else true
theorem rd44_4 (rest : Lsp) (t0k : Tk) (t0 : List (List AV)) (t1k : Tk) (t1 : List (List AV)) (t5 : Int) : roundV (cfg Try.prog tab 100000 (gk k13 30) rest 44 0 Try.f44.ntmps) (loopAt Try.f44 4) [0, 1, 5] [] [4] [] [AV.sl t0k [Kd.int IntKind.u16, Kd.int IntKind.u32] t0, AV.sl t1k [Kd.int IntKind.u16, Kd.int IntKind.u32] t1, AV.int IntKind.i64 t5] [] = bif go44_4 t0k t0 t1k t1 t5 then some (Ex.norm, [AV.sl t0k [Kd.int IntKind.u16, Kd.int IntKind.u32] t0, AV.sl t1k [Kd.int IntKind.u16, Kd.int IntKind.u32] t1, AV.int IntKind.i64 (nx44_4_4 t0k t0 t1k t1 t5)], []) else bif xc44_4_0 t0k t0 t1k t1 t5 then some (Ex.ret, [AV.bool false], []) else bif xc44_4_1 t0k t0 t1k t1 t5 then some (Ex.exit (nat_lit 0), [AV.junk], []) else none := by
  have h : roundV (cfg Try.prog tab 100000 (gk k13 30) rest 44 0 Try.f44.ntmps) (loopAt Try.f44 4) [0, 1, 5] [] [4] [] [AV.sl t0k [Kd.int IntKind.u16, Kd.int IntKind.u32] t0, AV.sl t1k [Kd.int IntKind.u16, Kd.int IntKind.u32] t1, AV.int IntKind.i64 t5] [] = bif decide (t5 < (↑t0.length : Int)) then bif decide ((0 : Int) ≤ t5) && decide (t5 < (↑t0.length : Int)) then bif decide ((0 : Int) ≤ t5) && decide (t5 < (↑t1.length : Int)) then bif !(intOf ((t0.getD t5.toNat []).getD (0 : Nat) AV.junk) == intOf ((t1.getD t5.toNat []).getD (0 : Nat) AV.junk) && (intOf ((t0.getD t5.toNat []).getD ((0 : Nat) + (1 : Nat)) AV.junk) == intOf ((t1.getD t5.toNat []).getD ((0 : Nat) + (1 : Nat)) AV.junk) && true)) then some (Ex.ret, [AV.bool false], []) else some (Ex.norm, [AV.sl t0k [Kd.int IntKind.u16, Kd.int IntKind.u32] t0, AV.sl t1k [Kd.int IntKind.u16, Kd.int IntKind.u32] t1, AV.int IntKind.i64 (IntKind.i64.wrap (t5 + (1 : Int)))], []) else none else none else some (Ex.exit (nat_lit 0), [AV.junk], []) := by kernel_rfl
  rw [h]
  clear h
  unfold go44_4 nx44_4_4 xc44_4_0 xc44_4_1
  generalize (!(intOf ((t0.getD t5.toNat []).getD (0 : Nat) AV.junk) == intOf ((t1.getD t5.toNat []).getD (0 : Nat) AV.junk) && (intOf ((t0.getD t5.toNat []).getD ((0 : Nat) + (1 : Nat)) AV.junk) == intOf ((t1.getD t5.toNat []).getD ((0 : Nat) + (1 : Nat)) AV.junk) && true))) = c0
  generalize (decide ((0 : Int) ≤ t5) && decide (t5 < (↑t0.length : Int))) = c1
  generalize (decide ((0 : Int) ≤ t5) && decide (t5 < (↑t1.length : Int))) = c2
  generalize (decide (t5 < (↑t0.length : Int))) = c3
  cases c3; rfl; cases c1; rfl; cases c2; rfl; cases c0; rfl; rfl
abbrev pl44_4 : Type := Tk × (List (List AV)) × Tk × (List (List AV))
abbrev sl44_4 : Type := Int
noncomputable def vt44_4 (a : pl44_4 × sl44_4) : List AV := [AV.sl a.1.1 [Kd.int IntKind.u16, Kd.int IntKind.u32] a.1.2.1, AV.sl a.1.2.2.1 [Kd.int IntKind.u16, Kd.int IntKind.u32] a.1.2.2.2, AV.int IntKind.i64 a.2]
noncomputable def vc44_4 (a : pl44_4 × sl44_4) : List Blk := []
noncomputable def de44_4 (vt : List AV) (vc : List Blk) : Option (pl44_4 × sl44_4) :=
  match vt with
  | [qa0, qa1, qa2] => (match vc with
  | [] => (match qa0 with
  | AV.sl t0k [Kd.int IntKind.u16, Kd.int IntKind.u32] t0 => (match qa1 with
  | AV.sl t1k [Kd.int IntKind.u16, Kd.int IntKind.u32] t1 => (match qa2 with
  | AV.int IntKind.i64 t5 => (some ((t0k, t0, t1k, t1), t5))
  | _ => none)
  | _ => none)
  | _ => none)
  | _ => none)
  | _ => none
theorem de44_4_ok (vt : List AV) (vc : List Blk) (a : pl44_4 × sl44_4) (h : de44_4 vt vc = some a) : vt = vt44_4 a ∧ vc = vc44_4 a := by
  unfold de44_4 at h
  split at h
  rotate_left
  · cases h
  split at h
  rotate_left
  · cases h
  split at h
  rotate_left
  · cases h
  split at h
  rotate_left
  · cases h
  split at h
  rotate_left
  · cases h
  injection h with h
  subst h
  exact ⟨rfl, rfl⟩
noncomputable def g44_4 (p : pl44_4) (s : sl44_4) : Bool := go44_4 p.1 p.2.1 p.2.2.1 p.2.2.2 s
noncomputable def n44_4 (p : pl44_4) (s : sl44_4) : sl44_4 := nx44_4_4 p.1 p.2.1 p.2.2.1 p.2.2.2 s
noncomputable def y44_4 (p : pl44_4) (s : sl44_4) : List (Bool × Out) := [(xc44_4_0 p.1 p.2.1 p.2.2.1 p.2.2.2 s, (Ex.ret, [AV.bool false], []))]
noncomputable def z44_4 (p : pl44_4) (s : sl44_4) : Bool := xc44_4_1 p.1 p.2.1 p.2.2.1 p.2.2.2 s
noncomputable def d44_4 (p : pl44_4) (s : sl44_4) : Out := (Ex.exit (nat_lit 0), [AV.junk], [])
noncomputable def ls44_4 : St → Option (Bool × List (Bool × Ex × St) × Ex × St) := lspOf [0, 1, 5] [] [4] [] Try.f44.ntmps (0 + tab.nid 44) de44_4 (spI g44_4 n44_4 y44_4 z44_4 d44_4)
theorem lo44_4 (rest : Lsp) : LoopOK1 (cfg Try.prog tab 100000 (gk k13 30) (selL 4 ls44_4 rest) 44 0 Try.f44.ntmps) (loopAt Try.f44 4) := LoopOK1.iter (i := 4) (by kernel_rfl) [0, 1, 5] [] [4] [] vt44_4 vc44_4 de44_4 g44_4 n44_4 y44_4 z44_4 d44_4 (fun _ => rfl) de44_4_ok (fun p s => rd44_4 (selL 4 ls44_4 rest) (p.1) (p.2.1) (p.2.2.1) (p.2.2.2) s) (fun _ _ => rfl)
noncomputable def lsp44 : Lsp := (selL 4 ls44_4 noLsp)
theorem loops44 : ∀ c, Try.f44.body = some c → LoopsOK (cfg Try.prog tab 100000 (gk k13 30) lsp44 44 0 Try.f44.ntmps) c := loops_of [4] (by kernel_rfl) (by kernel_rfl) (fun i hi => by
  simp only [List.mem_cons, List.not_mem_nil, or_false] at hi
  subst hi
  · exact lo44_4 noLsp)
noncomputable def rev44_0 (tk : Tk) (ps : List (List AV)) (tk2 : Tk) (ps2 : List (List AV)) : sl44_4 := finL (g44_4 (tk, ps, tk2, ps2)) (n44_4 (tk, ps, tk2, ps2)) (0 : Int)
noncomputable def vev44_0 (tk : Tk) (ps : List (List AV)) (tk2 : Tk) (ps2 : List (List AV)) : Bool := bif (↑ps.length : Int) != (↑ps2.length : Int) then false else bif xc44_4_0 tk ps tk2 ps2 (rev44_0 tk ps tk2 ps2) then false else true
noncomputable def vev44_1 (tk : Tk) (ps : List (List AV)) (tk2 : Tk) (ps2 : List (List AV)) : Bool := bif (↑ps.length : Int) != (↑ps2.length : Int) then true else bif (spI g44_4 n44_4 y44_4 z44_4 d44_4 ((tk, ps, tk2, ps2), (0 : Int))).fst then true else false
theorem ev44 (tk : Tk) (ps : List (List AV)) (tk2 : Tk) (ps2 : List (List AV)) : evFin (cfg Try.prog tab 100000 (gk k13 30) lsp44 44 ([] : List Blk).length Try.f44.ntmps) ([] : List Blk).length Try.f44.resultTypes.toList Try.f44 [.sl tk [.int .u16, .int .u32] ps, .sl tk2 [.int .u16, .int .u32] ps2] [] = bif vev44_1 tk ps tk2 ps2 then some (true, AV.bool (vev44_0 tk ps tk2 ps2), []) else none := by
  have h : evFin (cfg Try.prog tab 100000 (gk k13 30) lsp44 44 ([] : List Blk).length Try.f44.ntmps) ([] : List Blk).length Try.f44.resultTypes.toList Try.f44 [.sl tk [.int .u16, .int .u32] ps, .sl tk2 [.int .u16, .int .u32] ps2] [] = bif (↑ps.length : Int) != (↑ps2.length : Int) then some (true, AV.bool false, []) else bif (spI g44_4 n44_4 y44_4 z44_4 d44_4 ((tk, ps, tk2, ps2), (0 : Int))).fst then bif xc44_4_0 tk ps tk2 ps2 (rev44_0 tk ps tk2 ps2) then some (true, AV.bool false, []) else some (true, AV.bool true, []) else none := by kernel_rfl
  rw [h]
  clear h
  unfold vev44_0 vev44_1
  generalize ((spI g44_4 n44_4 y44_4 z44_4 d44_4 ((tk, ps, tk2, ps2), (0 : Int))).fst) = c0
  generalize ((↑ps.length : Int) != (↑ps2.length : Int)) = c1
  generalize (xc44_4_0 tk ps tk2 ps2 (rev44_0 tk ps tk2 ps2)) = c2
  cases c1; cases c0; rfl; cases c2; rfl; rfl; rfl
-- spec vev44_1 tk ps tk2 ps2 ;; (true, AV.bool (vev44_0 tk ps tk2 ps2), [])
noncomputable def sp44 : List AV → List Blk → Option (Bool × AV × List Blk)
  | [.sl tk [.int .u16, .int .u32] ps, .sl tk2 [.int .u16, .int .u32] ps2], [] => spW (vev44_1 tk ps tk2 ps2) (some ((true, AV.bool (vev44_0 tk ps tk2 ps2), [])))
  | _, _ => none
noncomputable def k44 : Gam := fun f T C => match Nat.beq f 44 with
  | true => (sp44 T C).or (k13 f T C)
  | false => k13 f T C
theorem k44_ok : GamOK Try.prog k44 := by
  intro f T C r outs h
  unfold k44 at h
  cases hf : Nat.beq f 44 with
  | false => rw [hf] at h; exact k13_ok f T C r outs h
  | true =>
    have hf' := Nat.eq_of_beq_eq_true hf
    subst hf'
    rw [hf] at h
    dsimp only at h
    cases hs : sp44 T C with
    | none => rw [hs] at h; exact k13_ok _ T C r outs h
    | some x =>
      rw [hs] at h
      have hx : x = (true, r, outs) := by simpa using h
      subst hx
      unfold sp44 at hs
      split at hs
      · rename_i tk ps tk2 ps2
        obtain ⟨hb, rfl, rfl⟩ := spT_inv hs
        have he := ev44 tk ps tk2 ps2
        rw [hb, cond_true] at he
        obtain ⟨r0, o0, h0, he⟩ := evFin_inv he
        obtain ⟨h1, h2⟩ := fn_ok mixed plain (gk_ok k13_ok 30) Try.func44 loops44 h0
        exact ⟨h1, h2.fin he⟩
      · cases hs
noncomputable def vev14_0 (t g n : Int) (d : List UInt8) (pa de : Int) (so : Bool) (we co la inc : Int) (ps : List (List AV)) (t' g' n' : Int) (d' : List UInt8) (pa' de' : Int) (so' : Bool) (we' co' la' inc' : Int) (ps' : List (List AV)) : Bool := bif t == t' then bif bif true then g == g' else false then bif bif true then n == n' else false then bif bif true then d == d' else false then bif bif true then pa == pa' else false then bif bif true then de == de' else false then bif bif true then so == so' else false then bif bif true then we == we' else false then bif bif true then co == co' else false then bif bif true then la == la' else false then bif bif true then inc == inc' else false then bif vev44_1 Tk.imm ps Tk.imm ps' then bif true then vev44_0 Tk.imm ps Tk.imm ps' else false else false else false else false else false else false else false else false else false else false else false else false else false
noncomputable def vev14_1 (t g n : Int) (d : List UInt8) (pa de : Int) (so : Bool) (we co la inc : Int) (ps : List (List AV)) (t' g' n' : Int) (d' : List UInt8) (pa' de' : Int) (so' : Bool) (we' co' la' inc' : Int) (ps' : List (List AV)) : Bool := bif bif t == t' then bif g == g' then bif n == n' then bif d == d' then bif pa == pa' then bif de == de' then bif so == so' then bif we == we' then bif co == co' then bif la == la' then bif inc == inc' then vev44_1 Tk.imm ps Tk.imm ps' else true else true else true else true else true else true else true else true else true else true else true then true else false
theorem ev14 (t g n : Int) (d : List UInt8) (pa de : Int) (so : Bool) (we co la inc : Int) (ps : List (List AV)) (t' g' n' : Int) (d' : List UInt8) (pa' de' : Int) (so' : Bool) (we' co' la' inc' : Int) (ps' : List (List AV)) : evFin (cfg Try.prog tab 100000 (gk k44 30) noLsp 14 ([] : List Blk).length Try.f14.ntmps) ([] : List Blk).length Try.f14.resultTypes.toList Try.f14 [.agg [.int .u8 t, .int .u8 g, .int .i64 n, .str d, .int .i64 pa, .int .i64 de, .bool so, .int .u8 we, .int .u32 co, .int .i64 la, .int .i64 inc, .sl .imm [.int .u16, .int .u32] ps], .agg [.int .u8 t', .int .u8 g', .int .i64 n', .str d', .int .i64 pa', .int .i64 de', .bool so', .int .u8 we', .int .u32 co', .int .i64 la', .int .i64 inc', .sl .imm [.int .u16, .int .u32] ps']] [] = bif vev14_1 t g n d pa de so we co la inc ps t' g' n' d' pa' de' so' we' co' la' inc' ps' then some (true, AV.bool (vev14_0 t g n d pa de so we co la inc ps t' g' n' d' pa' de' so' we' co' la' inc' ps'), []) else none := by
  have h : evFin (cfg Try.prog tab 100000 (gk k44 30) noLsp 14 ([] : List Blk).length Try.f14.ntmps) ([] : List Blk).length Try.f14.resultTypes.toList Try.f14 [.agg [.int .u8 t, .int .u8 g, .int .i64 n, .str d, .int .i64 pa, .int .i64 de, .bool so, .int .u8 we, .int .u32 co, .int .i64 la, .int .i64 inc, .sl .imm [.int .u16, .int .u32] ps], .agg [.int .u8 t', .int .u8 g', .int .i64 n', .str d', .int .i64 pa', .int .i64 de', .bool so', .int .u8 we', .int .u32 co', .int .i64 la', .int .i64 inc', .sl .imm [.int .u16, .int .u32] ps']] [] = bif bif t == t' then bif bif true then g == g' else false then bif bif true then n == n' else false then bif bif true then d == d' else false then bif bif true then pa == pa' else false then bif bif true then de == de' else false then bif bif true then so == so' else false then bif bif true then we == we' else false then bif bif true then co == co' else false then bif bif true then la == la' else false then bif bif true then inc == inc' else false then bif vev44_1 Tk.imm ps Tk.imm ps' then true else false else true else true else true else true else true else true else true else true else true else true else true then some (true, AV.bool (bif t == t' then bif bif true then g == g' else false then bif bif true then n == n' else false then bif bif true then d == d' else false then bif bif true then pa == pa' else false then bif bif true then de == de' else false then bif bif true then so == so' else false then bif bif true then we == we' else false then bif bif true then co == co' else false then bif bif true then la == la' else false then bif bif true then inc == inc' else false then bif vev44_1 Tk.imm ps Tk.imm ps' then bif true then vev44_0 Tk.imm ps Tk.imm ps' else false else false else false else false else false else false else false else false else false else false else false else false else false), []) else none := by kernel_rfl
  rw [h]
  clear h
  unfold vev14_0 vev14_1
  generalize (d == d') = c0
  generalize (de == de') = c1
  generalize (g == g') = c2
  generalize (n == n') = c3
  generalize (t == t') = c4
  generalize (pa == pa') = c5
  generalize (co == co') = c6
  generalize (so == so') = c7
  generalize (we == we') = c8
  generalize (la == la') = c9
  generalize (inc == inc') = c10
  generalize (vev44_1 Tk.imm ps Tk.imm ps') = c11
  cases c4; rfl; cases c2; rfl; cases c3; rfl; cases c0; rfl; cases c5; rfl; cases c1; rfl; cases c7; rfl; cases c8; rfl; cases c6; rfl; cases c9; rfl
  cases c10; rfl; cases c11; rfl; rfl
-- spec vev14_1 t g n d pa de so we co la inc ps t' g' n' d' pa' de' so' we' co' la' inc' ps' ;; (true, AV.bool (vev14_0 t g n d pa de so we co la inc ps t' g' n' d' pa' de' so' we' co' la' inc' ps'), [])
noncomputable def sp14 : List AV → List Blk → Option (Bool × AV × List Blk)
  | [.agg [.int .u8 t, .int .u8 g, .int .i64 n, .str d, .int .i64 pa, .int .i64 de, .bool so, .int .u8 we, .int .u32 co, .int .i64 la, .int .i64 inc, .sl .imm [.int .u16, .int .u32] ps], .agg [.int .u8 t', .int .u8 g', .int .i64 n', .str d', .int .i64 pa', .int .i64 de', .bool so', .int .u8 we', .int .u32 co', .int .i64 la', .int .i64 inc', .sl .imm [.int .u16, .int .u32] ps']], [] => spW (vev14_1 t g n d pa de so we co la inc ps t' g' n' d' pa' de' so' we' co' la' inc' ps') (some ((true, AV.bool (vev14_0 t g n d pa de so we co la inc ps t' g' n' d' pa' de' so' we' co' la' inc' ps'), [])))
  | _, _ => none
noncomputable def k14 : Gam := fun f T C => match Nat.beq f 14 with
  | true => (sp14 T C).or (k44 f T C)
  | false => k44 f T C
theorem k14_ok : GamOK Try.prog k14 := by
  intro f T C r outs h
  unfold k14 at h
  cases hf : Nat.beq f 14 with
  | false => rw [hf] at h; exact k44_ok f T C r outs h
  | true =>
    have hf' := Nat.eq_of_beq_eq_true hf
    subst hf'
    rw [hf] at h
    dsimp only at h
    cases hs : sp14 T C with
    | none => rw [hs] at h; exact k44_ok _ T C r outs h
    | some x =>
      rw [hs] at h
      have hx : x = (true, r, outs) := by simpa using h
      subst hx
      unfold sp14 at hs
      split at hs
      · rename_i t g n d pa de so we co la inc ps t' g' n' d' pa' de' so' we' co' la' inc' ps'
        obtain ⟨hb, rfl, rfl⟩ := spT_inv hs
        have he := ev14 t g n d pa de so we co la inc ps t' g' n' d' pa' de' so' we' co' la' inc' ps'
        rw [hb, cond_true] at he
        obtain ⟨r0, o0, h0, he⟩ := evFin_inv he
        obtain ⟨h1, h2⟩ := fn_ok mixed plain (gk_ok k44_ok 30) Try.func14 (fun c _ => LoopsOK.none (fun _ _ => rfl) c) h0
        exact ⟨h1, h2.fin he⟩
      · cases hs
theorem ev15 (c n : Int) : evFin (cfg Try.prog tab 100000 (gk k14 30) noLsp 15 ([] : List Blk).length Try.f15.ntmps) ([] : List Blk).length Try.f15.resultTypes.toList Try.f15 [.agg [.int .u32 c, .int .i64 n]] [] = some (true, AV.agg [AV.int IntKind.i64 (IntKind.i64.wrap c), AV.int IntKind.i64 n], []) := by kernel_rfl
-- spec true ;; (true, AV.agg [AV.int IntKind.i64 (IntKind.i64.wrap c), AV.int IntKind.i64 n], [])
noncomputable def sp15 : List AV → List Blk → Option (Bool × AV × List Blk)
  | [.agg [.int .u32 c, .int .i64 n]], [] => spW (true) (some ((true, AV.agg [AV.int IntKind.i64 (IntKind.i64.wrap c), AV.int IntKind.i64 n], [])))
  | _, _ => none
noncomputable def k15 : Gam := fun f T C => match Nat.beq f 15 with
  | true => (sp15 T C).or (k14 f T C)
  | false => k14 f T C
theorem k15_ok : GamOK Try.prog k15 := by
  intro f T C r outs h
  unfold k15 at h
  cases hf : Nat.beq f 15 with
  | false => rw [hf] at h; exact k14_ok f T C r outs h
  | true =>
    have hf' := Nat.eq_of_beq_eq_true hf
    subst hf'
    rw [hf] at h
    dsimp only at h
    cases hs : sp15 T C with
    | none => rw [hs] at h; exact k14_ok _ T C r outs h
    | some x =>
      rw [hs] at h
      have hx : x = (true, r, outs) := by simpa using h
      subst hx
      unfold sp15 at hs
      split at hs
      · rename_i c n
        obtain ⟨hb, rfl, rfl⟩ := spT_inv hs
        have he := ev15 c n
        obtain ⟨r0, o0, h0, he⟩ := evFin_inv he
        obtain ⟨h1, h2⟩ := fn_ok mixed plain (gk_ok k14_ok 30) Try.func15 (fun c _ => LoopsOK.none (fun _ _ => rfl) c) h0
        exact ⟨h1, h2.fin he⟩
      · cases hs
noncomputable def vev3_0 (l t g n : Int) (s : List UInt8) : Bool := bif decide ((↑s.length : Int) > (300 : Int)) then true else bif vev14_1 (vev12_0 l t g n s) (vev12_1 l t g n s) (vev12_2 l t g n s) (vev12_3 l t g n s) (vev12_4 l t g n s) (vev12_5 l t g n s) (vev12_6 l t g n s) (vev12_7 l t g n s) (vev12_8 l t g n s) (vev12_9 l t g n s) (vev12_10 l t g n s) (vev12_11 l t g n s) (vev13_0 l t g n s) (vev13_1 l t g n s) (vev13_2 l t g n s) (vev13_3 l t g n s) (vev13_4 l t g n s) (vev13_5 l t g n s) (vev13_6 l t g n s) (vev13_7 l t g n s) (vev13_8 l t g n s) (vev13_9 l t g n s) (vev13_10 l t g n s) (vev13_11 l t g n s) then bif vev14_0 (vev12_0 l t g n s) (vev12_1 l t g n s) (vev12_2 l t g n s) (vev12_3 l t g n s) (vev12_4 l t g n s) (vev12_5 l t g n s) (vev12_6 l t g n s) (vev12_7 l t g n s) (vev12_8 l t g n s) (vev12_9 l t g n s) (vev12_10 l t g n s) (vev12_11 l t g n s) (vev13_0 l t g n s) (vev13_1 l t g n s) (vev13_2 l t g n s) (vev13_3 l t g n s) (vev13_4 l t g n s) (vev13_5 l t g n s) (vev13_6 l t g n s) (vev13_7 l t g n s) (vev13_8 l t g n s) (vev13_9 l t g n s) (vev13_10 l t g n s) (vev13_11 l t g n s) then bif bif true then IntKind.i64.wrap (vev12_12 l t g n s) == vev13_12 l t g n s && (vev12_13 l t g n s == vev13_13 l t g n s && true) else false then bif true then true else false else false else false else false
noncomputable def vev3_1 (l t g n : Int) (s : List UInt8) : Bool := bif decide ((↑s.length : Int) > (300 : Int)) then true else bif vev12_14 l t g n s then bif vev13_14 l t g n s then bif vev14_1 (vev12_0 l t g n s) (vev12_1 l t g n s) (vev12_2 l t g n s) (vev12_3 l t g n s) (vev12_4 l t g n s) (vev12_5 l t g n s) (vev12_6 l t g n s) (vev12_7 l t g n s) (vev12_8 l t g n s) (vev12_9 l t g n s) (vev12_10 l t g n s) (vev12_11 l t g n s) (vev13_0 l t g n s) (vev13_1 l t g n s) (vev13_2 l t g n s) (vev13_3 l t g n s) (vev13_4 l t g n s) (vev13_5 l t g n s) (vev13_6 l t g n s) (vev13_7 l t g n s) (vev13_8 l t g n s) (vev13_9 l t g n s) (vev13_10 l t g n s) (vev13_11 l t g n s) then true else false else false else false
theorem ev3 (l t g n : Int) (s : List UInt8) : evFun (cfg Try.prog tab 100000 (gk k15 30) noLsp 3 ([] : List Blk).length Try.f3.ntmps) Try.f3 [.agg [.int .i64 l, .int .u8 t, .int .u8 g, .int .i64 n], .str s] [] = bif vev3_1 l t g n s then some (AV.bool (vev3_0 l t g n s), []) else none := by
  have h : evFun (cfg Try.prog tab 100000 (gk k15 30) noLsp 3 ([] : List Blk).length Try.f3.ntmps) Try.f3 [.agg [.int .i64 l, .int .u8 t, .int .u8 g, .int .i64 n], .str s] [] = bif decide ((↑s.length : Int) > (300 : Int)) then some (AV.bool true, []) else bif vev12_14 l t g n s then bif vev13_14 l t g n s then bif bif vev14_1 (vev12_0 l t g n s) (vev12_1 l t g n s) (vev12_2 l t g n s) (vev12_3 l t g n s) (vev12_4 l t g n s) (vev12_5 l t g n s) (vev12_6 l t g n s) (vev12_7 l t g n s) (vev12_8 l t g n s) (vev12_9 l t g n s) (vev12_10 l t g n s) (vev12_11 l t g n s) (vev13_0 l t g n s) (vev13_1 l t g n s) (vev13_2 l t g n s) (vev13_3 l t g n s) (vev13_4 l t g n s) (vev13_5 l t g n s) (vev13_6 l t g n s) (vev13_7 l t g n s) (vev13_8 l t g n s) (vev13_9 l t g n s) (vev13_10 l t g n s) (vev13_11 l t g n s) then bif vev14_0 (vev12_0 l t g n s) (vev12_1 l t g n s) (vev12_2 l t g n s) (vev12_3 l t g n s) (vev12_4 l t g n s) (vev12_5 l t g n s) (vev12_6 l t g n s) (vev12_7 l t g n s) (vev12_8 l t g n s) (vev12_9 l t g n s) (vev12_10 l t g n s) (vev12_11 l t g n s) (vev13_0 l t g n s) (vev13_1 l t g n s) (vev13_2 l t g n s) (vev13_3 l t g n s) (vev13_4 l t g n s) (vev13_5 l t g n s) (vev13_6 l t g n s) (vev13_7 l t g n s) (vev13_8 l t g n s) (vev13_9 l t g n s) (vev13_10 l t g n s) (vev13_11 l t g n s) then bif bif true then IntKind.i64.wrap (vev12_12 l t g n s) == vev13_12 l t g n s && (vev12_13 l t g n s == vev13_13 l t g n s && true) else false then true else true else true else false then some (AV.bool (bif vev14_1 (vev12_0 l t g n s) (vev12_1 l t g n s) (vev12_2 l t g n s) (vev12_3 l t g n s) (vev12_4 l t g n s) (vev12_5 l t g n s) (vev12_6 l t g n s) (vev12_7 l t g n s) (vev12_8 l t g n s) (vev12_9 l t g n s) (vev12_10 l t g n s) (vev12_11 l t g n s) (vev13_0 l t g n s) (vev13_1 l t g n s) (vev13_2 l t g n s) (vev13_3 l t g n s) (vev13_4 l t g n s) (vev13_5 l t g n s) (vev13_6 l t g n s) (vev13_7 l t g n s) (vev13_8 l t g n s) (vev13_9 l t g n s) (vev13_10 l t g n s) (vev13_11 l t g n s) then bif vev14_0 (vev12_0 l t g n s) (vev12_1 l t g n s) (vev12_2 l t g n s) (vev12_3 l t g n s) (vev12_4 l t g n s) (vev12_5 l t g n s) (vev12_6 l t g n s) (vev12_7 l t g n s) (vev12_8 l t g n s) (vev12_9 l t g n s) (vev12_10 l t g n s) (vev12_11 l t g n s) (vev13_0 l t g n s) (vev13_1 l t g n s) (vev13_2 l t g n s) (vev13_3 l t g n s) (vev13_4 l t g n s) (vev13_5 l t g n s) (vev13_6 l t g n s) (vev13_7 l t g n s) (vev13_8 l t g n s) (vev13_9 l t g n s) (vev13_10 l t g n s) (vev13_11 l t g n s) then bif bif true then IntKind.i64.wrap (vev12_12 l t g n s) == vev13_12 l t g n s && (vev12_13 l t g n s == vev13_13 l t g n s && true) else false then bif true then true else false else false else false else false), []) else none else none else none := by kernel_rfl
  rw [h]
  clear h
  unfold vev3_0 vev3_1
  generalize (vev14_0 (vev12_0 l t g n s) (vev12_1 l t g n s) (vev12_2 l t g n s) (vev12_3 l t g n s) (vev12_4 l t g n s) (vev12_5 l t g n s) (vev12_6 l t g n s) (vev12_7 l t g n s) (vev12_8 l t g n s) (vev12_9 l t g n s) (vev12_10 l t g n s) (vev12_11 l t g n s) (vev13_0 l t g n s) (vev13_1 l t g n s) (vev13_2 l t g n s) (vev13_3 l t g n s) (vev13_4 l t g n s) (vev13_5 l t g n s) (vev13_6 l t g n s) (vev13_7 l t g n s) (vev13_8 l t g n s) (vev13_9 l t g n s) (vev13_10 l t g n s) (vev13_11 l t g n s)) = c0
  generalize (vev14_1 (vev12_0 l t g n s) (vev12_1 l t g n s) (vev12_2 l t g n s) (vev12_3 l t g n s) (vev12_4 l t g n s) (vev12_5 l t g n s) (vev12_6 l t g n s) (vev12_7 l t g n s) (vev12_8 l t g n s) (vev12_9 l t g n s) (vev12_10 l t g n s) (vev12_11 l t g n s) (vev13_0 l t g n s) (vev13_1 l t g n s) (vev13_2 l t g n s) (vev13_3 l t g n s) (vev13_4 l t g n s) (vev13_5 l t g n s) (vev13_6 l t g n s) (vev13_7 l t g n s) (vev13_8 l t g n s) (vev13_9 l t g n s) (vev13_10 l t g n s) (vev13_11 l t g n s)) = c1
  generalize (IntKind.i64.wrap (vev12_12 l t g n s) == vev13_12 l t g n s && (vev12_13 l t g n s == vev13_13 l t g n s && true)) = c2
  generalize (decide ((↑s.length : Int) > (300 : Int))) = c3
  generalize (vev12_14 l t g n s) = c4
  generalize (vev13_14 l t g n s) = c5
  cases c3; cases c4; rfl; cases c5; rfl; cases c1; rfl; cases c0; rfl; cases c2; rfl; rfl; rfl
-- spec vev3_1 l t g n s ;; (AV.bool (vev3_0 l t g n s), [])
-- law 3: loops (fun c _ => LoopsOK.none (fun _ _ => rfl) c) gam k15
end Go.Proofs.Gv
