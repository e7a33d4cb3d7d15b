import Derived.Test.YtndephedgodneaaGt
import Derived.KernelRfl
import Derived.Test.YtndephedgodneaaGwF
import Derived.Test.YtndephedgodneaaGaFr
namespace Go.Proofs.Gv
open Go.Proofs
set_option linter.unusedVariables false
noncomputable def go63_3 (t0k : Tk) (t0 : List (List AV)) (t3 t4 : Int) : Bool := bif decide (t4 < (↑t0.length : Int)) then decide ((0 : Int) ≤ t4) && decide (t4 < (↑t0.length : Int)) else false
noncomputable def nx63_3_2 (t0k : Tk) (t0 : List (List AV)) (t3 t4 : Int) : Int := IntKind.i64.wrap (IntKind.i64.wrap ((256 : Int) * t3) + IntKind.i64.wrap (intOf ((t0.getD t4.toNat []).getD (0 : Nat) AV.junk)))
noncomputable def nx63_3_3 (t0k : Tk) (t0 : List (List AV)) (t3 t4 : Int) : Int := IntKind.i64.wrap (t4 + (1 : Int))
noncomputable def xc63_3_0 (t0k : Tk) (t0 : List (List AV)) (t3 t4 : Int) : Bool := bif decide (t4 < (↑t0.length : Int)) then false else true
theorem rd63_3 (rest : Lsp) (t0k : Tk) (t0 : List (List AV)) (t3 t4 : Int) : roundV (cfg Try.prog tab 100000 (gk k12 30) rest 63 0 Try.f63.ntmps) (loopAt Try.f63 3) [0, 3, 4] [] [3] [] [AV.sl t0k [Kd.int IntKind.u8] t0, AV.int IntKind.i64 t3, AV.int IntKind.i64 t4] [] = bif go63_3 t0k t0 t3 t4 then some (Ex.norm, [AV.sl t0k [Kd.int IntKind.u8] t0, AV.int IntKind.i64 (nx63_3_2 t0k t0 t3 t4), AV.int IntKind.i64 (nx63_3_3 t0k t0 t3 t4)], []) else bif xc63_3_0 t0k t0 t3 t4 then some (Ex.exit (nat_lit 0), [AV.int IntKind.i64 t3], []) else none := by
  have h : roundV (cfg Try.prog tab 100000 (gk k12 30) rest 63 0 Try.f63.ntmps) (loopAt Try.f63 3) [0, 3, 4] [] [3] [] [AV.sl t0k [Kd.int IntKind.u8] t0, AV.int IntKind.i64 t3, AV.int IntKind.i64 t4] [] = bif decide (t4 < (↑t0.length : Int)) then bif decide ((0 : Int) ≤ t4) && decide (t4 < (↑t0.length : Int)) then some (Ex.norm, [AV.sl t0k [Kd.int IntKind.u8] t0, AV.int IntKind.i64 (IntKind.i64.wrap (IntKind.i64.wrap ((256 : Int) * t3) + IntKind.i64.wrap (intOf ((t0.getD t4.toNat []).getD (0 : Nat) AV.junk)))), AV.int IntKind.i64 (IntKind.i64.wrap (t4 + (1 : Int)))], []) else none else some (Ex.exit (nat_lit 0), [AV.int IntKind.i64 t3], []) := by kernel_rfl
  rw [h]
  clear h
  unfold go63_3 nx63_3_2 nx63_3_3 xc63_3_0
  generalize (decide ((0 : Int) ≤ t4) && decide (t4 < (↑t0.length : Int))) = c0
  generalize (decide (t4 < (↑t0.length : Int))) = c1
  cases c1; rfl; cases c0; rfl; rfl
abbrev pl63_3 : Type := Tk × (List (List AV))
abbrev sl63_3 : Type := Int × Int
noncomputable def vt63_3 (a : pl63_3 × sl63_3) : List AV := [AV.sl a.1.1 [Kd.int IntKind.u8] a.1.2, AV.int IntKind.i64 a.2.1, AV.int IntKind.i64 a.2.2]
noncomputable def vc63_3 (a : pl63_3 × sl63_3) : List Blk := []
noncomputable def de63_3 (vt : List AV) (vc : List Blk) : Option (pl63_3 × sl63_3) :=
  match vt with
  | [qa0, qa1, qa2] => (match vc with
  | [] => (match qa0 with
  | AV.sl t0k [Kd.int IntKind.u8] t0 => (match qa1 with
  | AV.int IntKind.i64 t3 => (match qa2 with
  | AV.int IntKind.i64 t4 => (some ((t0k, t0), (t3, t4)))
  | _ => none)
  | _ => none)
  | _ => none)
  | _ => none)
  | _ => none
theorem de63_3_ok (vt : List AV) (vc : List Blk) (a : pl63_3 × sl63_3) (h : de63_3 vt vc = some a) : vt = vt63_3 a ∧ vc = vc63_3 a := by
  unfold de63_3 at h
  split at h
  rotate_left
  · cases h
  split at h
  rotate_left
  · cases h
  split at h
  rotate_left
  · cases h
  split at h
  rotate_left
  · cases h
  split at h
  rotate_left
  · cases h
  injection h with h
  subst h
  exact ⟨rfl, rfl⟩
noncomputable def g63_3 (p : pl63_3) (s : sl63_3) : Bool := go63_3 p.1 p.2 s.1 s.2
noncomputable def n63_3 (p : pl63_3) (s : sl63_3) : sl63_3 := (nx63_3_2 p.1 p.2 s.1 s.2, nx63_3_3 p.1 p.2 s.1 s.2)
noncomputable def y63_3 (p : pl63_3) (s : sl63_3) : List (Bool × Out) := []
noncomputable def z63_3 (p : pl63_3) (s : sl63_3) : Bool := xc63_3_0 p.1 p.2 s.1 s.2
noncomputable def d63_3 (p : pl63_3) (s : sl63_3) : Out := (Ex.exit (nat_lit 0), [AV.int IntKind.i64 s.1], [])
noncomputable def ls63_3 : St → Option (Bool × List (Bool × Ex × St) × Ex × St) := lspOf [0, 3, 4] [] [3] [] Try.f63.ntmps (0 + tab.nid 63) de63_3 (spI g63_3 n63_3 y63_3 z63_3 d63_3)
theorem lo63_3 (rest : Lsp) : LoopOK1 (cfg Try.prog tab 100000 (gk k12 30) (selL 3 ls63_3 rest) 63 0 Try.f63.ntmps) (loopAt Try.f63 3) := LoopOK1.iter (i := 3) (by kernel_rfl) [0, 3, 4] [] [3] [] vt63_3 vc63_3 de63_3 g63_3 n63_3 y63_3 z63_3 d63_3 (fun _ => rfl) de63_3_ok (fun p s => rd63_3 (selL 3 ls63_3 rest) (p.1) (p.2) (s.1) (s.2)) (fun _ _ => rfl)
noncomputable def lsp63 : Lsp := (selL 3 ls63_3 noLsp)
theorem loops63 : ∀ c, Try.f63.body = some c → LoopsOK (cfg Try.prog tab 100000 (gk k12 30) lsp63 63 0 Try.f63.ntmps) c := loops_of [3] (by kernel_rfl) (by kernel_rfl) (fun i hi => by
  simp only [List.mem_cons, List.not_mem_nil, or_false] at hi
  subst hi
  · exact lo63_3 noLsp)
noncomputable def rev63_0 (tk : Tk) (bs : List (List AV)) : sl63_3 := finL (g63_3 (tk, bs)) (n63_3 (tk, bs)) ((0 : Int), (0 : Int))
noncomputable def vev63_0 (tk : Tk) (bs : List (List AV)) : Bool := bif (spI g63_3 n63_3 y63_3 z63_3 d63_3 ((tk, bs), (0 : Int), (0 : Int))).fst then true else false
theorem ev63 (tk : Tk) (bs : List (List AV)) : evFin (cfg Try.prog tab 100000 (gk k12 30) lsp63 63 ([] : List Blk).length Try.f63.ntmps) ([] : List Blk).length Try.f63.resultTypes.toList Try.f63 [.sl tk [.int .u8] bs] [] = bif vev63_0 tk bs then some (true, AV.int IntKind.i64 (rev63_0 tk bs).fst, []) else none := by
  have h : evFin (cfg Try.prog tab 100000 (gk k12 30) lsp63 63 ([] : List Blk).length Try.f63.ntmps) ([] : List Blk).length Try.f63.resultTypes.toList Try.f63 [.sl tk [.int .u8] bs] [] = bif (spI g63_3 n63_3 y63_3 z63_3 d63_3 ((tk, bs), (0 : Int), (0 : Int))).fst then some (true, AV.int IntKind.i64 (rev63_0 tk bs).fst, []) else none := by kernel_rfl
  rw [h]
  clear h
  unfold vev63_0
  generalize ((spI g63_3 n63_3 y63_3 z63_3 d63_3 ((tk, bs), (0 : Int), (0 : Int))).fst) = c0
  cases c0
  · skip
    rfl
  · skip
    rfl
-- spec vev63_0 tk bs ;; (true, AV.int IntKind.i64 (rev63_0 tk bs).fst, [])
noncomputable def sp63 : List AV → List Blk → Option (Bool × AV × List Blk)
  | [.sl tk [.int .u8] bs], [] => spW (vev63_0 tk bs) (some ((true, AV.int IntKind.i64 (rev63_0 tk bs).fst, [])))
  | _, _ => none
noncomputable def k63 : Gam := fun f T C => match Nat.beq f 63 with
  | true => (sp63 T C).or (k12 f T C)
  | false => k12 f T C
theorem k63_ok : GamOK Try.prog k63 := by
  intro f T C r outs h
  unfold k63 at h
  cases hf : Nat.beq f 63 with
  | false => rw [hf] at h; exact k12_ok f T C r outs h
  | true =>
    have hf' := Nat.eq_of_beq_eq_true hf
    subst hf'
    rw [hf] at h
    dsimp only at h
    cases hs : sp63 T C with
    | none => rw [hs] at h; exact k12_ok _ T C r outs h
    | some x =>
      rw [hs] at h
      have hx : x = (true, r, outs) := by simpa using h
      subst hx
      unfold sp63 at hs
      split at hs
      · rename_i tk bs
        obtain ⟨hb, rfl, rfl⟩ := spT_inv hs
        have he := ev63 tk bs
        rw [hb, cond_true] at he
        obtain ⟨r0, o0, h0, he⟩ := evFin_inv he
        obtain ⟨h1, h2⟩ := fn_ok mixed plain (gk_ok k12_ok 30) Try.func63 loops63 h0
        exact ⟨h1, h2.fin he⟩
      · cases hs
noncomputable def vev42_0 (s : List UInt8) : Int := (rev63_0 Tk.imm (List.map ofB s)).fst
noncomputable def vev42_1 (s : List UInt8) : Bool := bif decide (s.length ≤ (4611686018427387904 : Nat)) then bif vev63_0 Tk.imm (List.map ofB s) then true else false else false
theorem ev42 (s : List UInt8) : evFin (cfg Try.prog tab 100000 (gk k63 30) noLsp 42 ([] : List Blk).length Try.f42.ntmps) ([] : List Blk).length Try.f42.resultTypes.toList Try.f42 [.str s] [] = bif vev42_1 s then some (true, AV.int IntKind.i64 (vev42_0 s), []) else none := by
  have h : evFin (cfg Try.prog tab 100000 (gk k63 30) noLsp 42 ([] : List Blk).length Try.f42.ntmps) ([] : List Blk).length Try.f42.resultTypes.toList Try.f42 [.str s] [] = bif decide (s.length ≤ (4611686018427387904 : Nat)) then bif vev63_0 Tk.imm (List.map ofB s) then some (true, AV.int IntKind.i64 (rev63_0 Tk.imm (List.map ofB s)).fst, []) else none else none := by kernel_rfl
  rw [h]
  clear h
  unfold vev42_0 vev42_1
  generalize (decide (s.length ≤ (4611686018427387904 : Nat))) = c0
  generalize (vev63_0 Tk.imm (List.map ofB s)) = c1
  cases c0; rfl; cases c1; rfl; rfl
-- spec vev42_1 s ;; (true, AV.int IntKind.i64 (vev42_0 s), [])
noncomputable def sp42 : List AV → List Blk → Option (Bool × AV × List Blk)
  | [.str s], [] => spW (vev42_1 s) (some ((true, AV.int IntKind.i64 (vev42_0 s), [])))
  | _, _ => none
noncomputable def k42 : Gam := fun f T C => match Nat.beq f 42 with
  | true => (sp42 T C).or (k63 f T C)
  | false => k63 f T C
theorem k42_ok : GamOK Try.prog k42 := by
  intro f T C r outs h
  unfold k42 at h
  cases hf : Nat.beq f 42 with
  | false => rw [hf] at h; exact k63_ok f T C r outs h
  | true =>
    have hf' := Nat.eq_of_beq_eq_true hf
    subst hf'
    rw [hf] at h
    dsimp only at h
    cases hs : sp42 T C with
    | none => rw [hs] at h; exact k63_ok _ T C r outs h
    | some x =>
      rw [hs] at h
      have hx : x = (true, r, outs) := by simpa using h
      subst hx
      unfold sp42 at hs
      split at hs
      · rename_i s
        obtain ⟨hb, rfl, rfl⟩ := spT_inv hs
        have he := ev42 s
        rw [hb, cond_true] at he
        obtain ⟨r0, o0, h0, he⟩ := evFin_inv he
        obtain ⟨h1, h2⟩ := fn_ok mixed plain (gk_ok k63_ok 30) Try.func42 (fun c _ => LoopsOK.none (fun _ _ => rfl) c) h0
        exact ⟨h1, h2.fin he⟩
      · cases hs
noncomputable def rev43_0 (s : List UInt8) : List UInt8 := List.take (Int.toNat (4 : Int)) s
noncomputable def vev43_0 (s : List UInt8) : Int := (vev42_0 (rev43_0 s)).tmod (2147483648 : Int)
noncomputable def vev43_1 (s : List UInt8) : Bool := bif bnd (0 : Int) (4 : Int) (↑s.length : Int) then bif vev42_1 (rev43_0 s) then true else false else false
theorem ev43 (s : List UInt8) : evFin (cfg Try.prog tab 100000 (gk k42 30) noLsp 43 ([] : List Blk).length Try.f43.ntmps) ([] : List Blk).length Try.f43.resultTypes.toList Try.f43 [.str s] [] = bif vev43_1 s then some (true, AV.int IntKind.i64 (vev43_0 s), []) else none := by
  have h : evFin (cfg Try.prog tab 100000 (gk k42 30) noLsp 43 ([] : List Blk).length Try.f43.ntmps) ([] : List Blk).length Try.f43.resultTypes.toList Try.f43 [.str s] [] = bif bnd (0 : Int) (4 : Int) (↑s.length : Int) then bif vev42_1 (rev43_0 s) then some (true, AV.int IntKind.i64 ((vev42_0 (rev43_0 s)).tmod (2147483648 : Int)), []) else none else none := by kernel_rfl
  rw [h]
  clear h
  unfold vev43_0 vev43_1
  generalize (bnd (0 : Int) (4 : Int) (↑s.length : Int)) = c0
  generalize (vev42_1 (rev43_0 s)) = c1
  cases c0; rfl; cases c1; rfl; rfl
-- spec vev43_1 s ;; (true, AV.int IntKind.i64 (vev43_0 s), [])
noncomputable def sp43 : List AV → List Blk → Option (Bool × AV × List Blk)
  | [.str s], [] => spW (vev43_1 s) (some ((true, AV.int IntKind.i64 (vev43_0 s), [])))
  | _, _ => none
noncomputable def k43 : Gam := fun f T C => match Nat.beq f 43 with
  | true => (sp43 T C).or (k42 f T C)
  | false => k42 f T C
theorem k43_ok : GamOK Try.prog k43 := by
  intro f T C r outs h
  unfold k43 at h
  cases hf : Nat.beq f 43 with
  | false => rw [hf] at h; exact k42_ok f T C r outs h
  | true =>
    have hf' := Nat.eq_of_beq_eq_true hf
    subst hf'
    rw [hf] at h
    dsimp only at h
    cases hs : sp43 T C with
    | none => rw [hs] at h; exact k42_ok _ T C r outs h
    | some x =>
      rw [hs] at h
      have hx : x = (true, r, outs) := by simpa using h
      subst hx
      unfold sp43 at hs
      split at hs
      · rename_i s
        obtain ⟨hb, rfl, rfl⟩ := spT_inv hs
        have he := ev43 s
        rw [hb, cond_true] at he
        obtain ⟨r0, o0, h0, he⟩ := evFin_inv he
        obtain ⟨h1, h2⟩ := fn_ok mixed plain (gk_ok k42_ok 30) Try.func43 (fun c _ => LoopsOK.none (fun _ _ => rfl) c) h0
        exact ⟨h1, h2.fin he⟩
      · cases hs
noncomputable def go55_2 (t0 t1 t5 : Int) : Bool := bif decide (t5 < (8 : Int)) then bif bif t1.tmod (2 : Int) == (1 : Int) then t0.tmod (2 : Int) == (0 : Int) else false then false else true else false
noncomputable def nx55_2_0 (t0 t1 t5 : Int) : Int := IntKind.u8.wrap (t0.tdiv (2 : Int))
noncomputable def nx55_2_1 (t0 t1 t5 : Int) : Int := IntKind.u8.wrap (t1.tdiv (2 : Int))
noncomputable def nx55_2_2 (t0 t1 t5 : Int) : Int := IntKind.i64.wrap (t5 + (1 : Int))
noncomputable def xc55_2_0 (t0 t1 t5 : Int) : Bool := bif decide (t5 < (8 : Int)) then bif t1.tmod (2 : Int) == (1 : Int) then t0.tmod (2 : Int) == (0 : Int) else false else false
noncomputable def xc55_2_1 (t0 t1 t5 : Int) : Bool := bif decide (t5 < (8 : Int)) then false else true
theorem rd55_2 (rest : Lsp) (t0 t1 t5 : Int) : roundV (cfg Try.prog tab 100000 (gk k43 30) rest 55 0 Try.f55.ntmps) (loopAt Try.f55 2) [0, 1, 5] [] [4] [] [AV.int IntKind.u8 t0, AV.int IntKind.u8 t1, AV.int IntKind.i64 t5] [] = bif go55_2 t0 t1 t5 then some (Ex.norm, [AV.int IntKind.u8 (nx55_2_0 t0 t1 t5), AV.int IntKind.u8 (nx55_2_1 t0 t1 t5), AV.int IntKind.i64 (nx55_2_2 t0 t1 t5)], []) else bif xc55_2_0 t0 t1 t5 then some (Ex.ret, [AV.bool false], []) else bif xc55_2_1 t0 t1 t5 then some (Ex.exit (nat_lit 0), [AV.junk], []) else none := by
  have h : roundV (cfg Try.prog tab 100000 (gk k43 30) rest 55 0 Try.f55.ntmps) (loopAt Try.f55 2) [0, 1, 5] [] [4] [] [AV.int IntKind.u8 t0, AV.int IntKind.u8 t1, AV.int IntKind.i64 t5] [] = bif decide (t5 < (8 : Int)) then bif bif t1.tmod (2 : Int) == (1 : Int) then true else true then bif bif t1.tmod (2 : Int) == (1 : Int) then bif true then t0.tmod (2 : Int) == (0 : Int) else false else false then some (Ex.ret, [AV.bool false], []) else some (Ex.norm, [AV.int IntKind.u8 (IntKind.u8.wrap (t0.tdiv (2 : Int))), AV.int IntKind.u8 (IntKind.u8.wrap (t1.tdiv (2 : Int))), AV.int IntKind.i64 (IntKind.i64.wrap (t5 + (1 : Int)))], []) else none else some (Ex.exit (nat_lit 0), [AV.junk], []) := by kernel_rfl
  rw [h]
  clear h
  unfold go55_2 nx55_2_0 nx55_2_1 nx55_2_2 xc55_2_0 xc55_2_1
  generalize (t0.tmod (2 : Int) == (0 : Int)) = c0
  generalize (decide (t5 < (8 : Int))) = c1
  generalize (t1.tmod (2 : Int) == (1 : Int)) = c2
  cases c1; rfl; cases c2; rfl; cases c0; rfl; rfl
abbrev pl55_2 : Type := Unit
abbrev sl55_2 : Type := Int × Int × Int
noncomputable def vt55_2 (a : pl55_2 × sl55_2) : List AV := [AV.int IntKind.u8 a.2.1, AV.int IntKind.u8 a.2.2.1, AV.int IntKind.i64 a.2.2.2]
noncomputable def vc55_2 (a : pl55_2 × sl55_2) : List Blk := []
noncomputable def de55_2 (vt : List AV) (vc : List Blk) : Option (pl55_2 × sl55_2) :=
  match vt with
  | [qa0, qa1, qa2] => (match vc with
  | [] => (match qa0 with
  | AV.int IntKind.u8 t0 => (match qa1 with
  | AV.int IntKind.u8 t1 => (match qa2 with
  | AV.int IntKind.i64 t5 => (some ((), (t0, t1, t5)))
  | _ => none)
  | _ => none)
  | _ => none)
  | _ => none)
  | _ => none
theorem de55_2_ok (vt : List AV) (vc : List Blk) (a : pl55_2 × sl55_2) (h : de55_2 vt vc = some a) : vt = vt55_2 a ∧ vc = vc55_2 a := by
  unfold de55_2 at h
  split at h
  rotate_left
  · cases h
  split at h
  rotate_left
  · cases h
  split at h
  rotate_left
  · cases h
  split at h
  rotate_left
  · cases h
  split at h
  rotate_left
  · cases h
  injection h with h
  subst h
  exact ⟨rfl, rfl⟩
noncomputable def g55_2 (p : pl55_2) (s : sl55_2) : Bool := go55_2 s.1 s.2.1 s.2.2
noncomputable def n55_2 (p : pl55_2) (s : sl55_2) : sl55_2 := (nx55_2_0 s.1 s.2.1 s.2.2, nx55_2_1 s.1 s.2.1 s.2.2, nx55_2_2 s.1 s.2.1 s.2.2)
noncomputable def y55_2 (p : pl55_2) (s : sl55_2) : List (Bool × Out) := [(xc55_2_0 s.1 s.2.1 s.2.2, (Ex.ret, [AV.bool false], []))]
noncomputable def z55_2 (p : pl55_2) (s : sl55_2) : Bool := xc55_2_1 s.1 s.2.1 s.2.2
noncomputable def d55_2 (p : pl55_2) (s : sl55_2) : Out := (Ex.exit (nat_lit 0), [AV.junk], [])
noncomputable def ls55_2 : St → Option (Bool × List (Bool × Ex × St) × Ex × St) := lspOf [0, 1, 5] [] [4] [] Try.f55.ntmps (0 + tab.nid 55) de55_2 (spI g55_2 n55_2 y55_2 z55_2 d55_2)
theorem lo55_2 (rest : Lsp) : LoopOK1 (cfg Try.prog tab 100000 (gk k43 30) (selL 2 ls55_2 rest) 55 0 Try.f55.ntmps) (loopAt Try.f55 2) := LoopOK1.iter (i := 2) (by kernel_rfl) [0, 1, 5] [] [4] [] vt55_2 vc55_2 de55_2 g55_2 n55_2 y55_2 z55_2 d55_2 (fun _ => rfl) de55_2_ok (fun p s => rd55_2 (selL 2 ls55_2 rest) (s.1) (s.2.1) (s.2.2)) (fun _ _ => rfl)
noncomputable def lsp55 : Lsp := (selL 2 ls55_2 noLsp)
theorem loops55 : ∀ c, Try.f55.body = some c → LoopsOK (cfg Try.prog tab 100000 (gk k43 30) lsp55 55 0 Try.f55.ntmps) c := loops_of [2] (by kernel_rfl) (by kernel_rfl) (fun i hi => by
  simp only [List.mem_cons, List.not_mem_nil, or_false] at hi
  subst hi
  · exact lo55_2 noLsp)
noncomputable def rev55_0 (fs flag : Int) : sl55_2 := finL (g55_2 ()) (n55_2 ()) (fs, flag, (0 : Int))
noncomputable def vev55_0 (fs flag : Int) : Bool := bif xc55_2_0 (rev55_0 fs flag).fst (rev55_0 fs flag).snd.fst (rev55_0 fs flag).snd.snd then false else true
noncomputable def vev55_1 (fs flag : Int) : Bool := bif (spI g55_2 n55_2 y55_2 z55_2 d55_2 ((), fs, flag, (0 : Int))).fst then true else false
theorem ev55 (fs flag : Int) : evFin (cfg Try.prog tab 100000 (gk k43 30) lsp55 55 ([] : List Blk).length Try.f55.ntmps) ([] : List Blk).length Try.f55.resultTypes.toList Try.f55 [.int .u8 fs, .int .u8 flag] [] = bif vev55_1 fs flag then some (true, AV.bool (vev55_0 fs flag), []) else none := by
  have h : evFin (cfg Try.prog tab 100000 (gk k43 30) lsp55 55 ([] : List Blk).length Try.f55.ntmps) ([] : List Blk).length Try.f55.resultTypes.toList Try.f55 [.int .u8 fs, .int .u8 flag] [] = bif (spI g55_2 n55_2 y55_2 z55_2 d55_2 ((), fs, flag, (0 : Int))).fst then bif xc55_2_0 (rev55_0 fs flag).fst (rev55_0 fs flag).snd.fst (rev55_0 fs flag).snd.snd then some (true, AV.bool false, []) else some (true, AV.bool true, []) else none := by kernel_rfl
  rw [h]
  clear h
  unfold vev55_0 vev55_1
  generalize ((spI g55_2 n55_2 y55_2 z55_2 d55_2 ((), fs, flag, (0 : Int))).fst) = c0
  generalize (xc55_2_0 (rev55_0 fs flag).fst (rev55_0 fs flag).snd.fst (rev55_0 fs flag).snd.snd) = c1
  cases c0; rfl; cases c1; rfl; rfl
-- spec vev55_1 fs flag ;; (true, AV.bool (vev55_0 fs flag), [])
noncomputable def sp55 : List AV → List Blk → Option (Bool × AV × List Blk)
  | [.int .u8 fs, .int .u8 flag], [] => spW (vev55_1 fs flag) (some ((true, AV.bool (vev55_0 fs flag), [])))
  | _, _ => none
noncomputable def k55 : Gam := fun f T C => match Nat.beq f 55 with
  | true => (sp55 T C).or (k43 f T C)
  | false => k43 f T C
theorem k55_ok : GamOK Try.prog k55 := by
  intro f T C r outs h
  unfold k55 at h
  cases hf : Nat.beq f 55 with
  | false => rw [hf] at h; exact k43_ok f T C r outs h
  | true =>
    have hf' := Nat.eq_of_beq_eq_true hf
    subst hf'
    rw [hf] at h
    dsimp only at h
    cases hs : sp55 T C with
    | none => rw [hs] at h; exact k43_ok _ T C r outs h
    | some x =>
      rw [hs] at h
      have hx : x = (true, r, outs) := by simpa using h
      subst hx
      unfold sp55 at hs
      split at hs
      · rename_i fs flag
        obtain ⟨hb, rfl, rfl⟩ := spT_inv hs
        have he := ev55 fs flag
        rw [hb, cond_true] at he
        obtain ⟨r0, o0, h0, he⟩ := evFin_inv he
        obtain ⟨h1, h2⟩ := fn_ok mixed plain (gk_ok k43_ok 30) Try.func55 loops55 h0
        exact ⟨h1, h2.fin he⟩
      · cases hs
noncomputable def vev62n_0 (t g n : Int) (d : List UInt8) (pa de : Int) (so : Bool) (we co la inc fl : Int) : Bool := bif vev55_1 g fl then true else false
theorem ev62n (t g n : Int) (d : List UInt8) (pa de : Int) (so : Bool) (we co la inc fl : Int) : evFin (cfg Try.prog tab 100000 (gk k55 30) noLsp 62 ([] : List Blk).length Try.f62.ntmps) ([] : List Blk).length Try.f62.resultTypes.toList Try.f62 [.agg [.int .u8 t, .int .u8 g, .int .i64 n, .str d, .int .i64 pa, .int .i64 de, .bool so, .int .u8 we, .int .u32 co, .int .i64 la, .int .i64 inc, .nil], .int .u8 fl] [] = bif vev62n_0 t g n d pa de so we co la inc fl then some (true, AV.bool (vev55_0 g fl), []) else none := by
  have h : evFin (cfg Try.prog tab 100000 (gk k55 30) noLsp 62 ([] : List Blk).length Try.f62.ntmps) ([] : List Blk).length Try.f62.resultTypes.toList Try.f62 [.agg [.int .u8 t, .int .u8 g, .int .i64 n, .str d, .int .i64 pa, .int .i64 de, .bool so, .int .u8 we, .int .u32 co, .int .i64 la, .int .i64 inc, .nil], .int .u8 fl] [] = bif vev55_1 g fl then some (true, AV.bool (vev55_0 g fl), []) else none := by kernel_rfl
  rw [h]
  clear h
  unfold vev62n_0
  generalize (vev55_1 g fl) = c0
  cases c0
  · skip
    rfl
  · skip
    rfl
-- spec vev62n_0 t g n d pa de so we co la inc fl ;; (true, AV.bool (vev55_0 g fl), [])
noncomputable def sp62n : List AV → List Blk → Option (Bool × AV × List Blk)
  | [.agg [.int .u8 t, .int .u8 g, .int .i64 n, .str d, .int .i64 pa, .int .i64 de, .bool so, .int .u8 we, .int .u32 co, .int .i64 la, .int .i64 inc, .nil], .int .u8 fl], [] => spW (vev62n_0 t g n d pa de so we co la inc fl) (some ((true, AV.bool (vev55_0 g fl), [])))
  | _, _ => none
noncomputable def k62n : Gam := fun f T C => match Nat.beq f 62 with
  | true => (sp62n T C).or (k55 f T C)
  | false => k55 f T C
theorem k62n_ok : GamOK Try.prog k62n := by
  intro f T C r outs h
  unfold k62n at h
  cases hf : Nat.beq f 62 with
  | false => rw [hf] at h; exact k55_ok f T C r outs h
  | true =>
    have hf' := Nat.eq_of_beq_eq_true hf
    subst hf'
    rw [hf] at h
    dsimp only at h
    cases hs : sp62n T C with
    | none => rw [hs] at h; exact k55_ok _ T C r outs h
    | some x =>
      rw [hs] at h
      have hx : x = (true, r, outs) := by simpa using h
      subst hx
      unfold sp62n at hs
      split at hs
      · rename_i t g n d pa de so we co la inc fl
        obtain ⟨hb, rfl, rfl⟩ := spT_inv hs
        have he := ev62n t g n d pa de so we co la inc fl
        rw [hb, cond_true] at he
        obtain ⟨r0, o0, h0, he⟩ := evFin_inv he
        obtain ⟨h1, h2⟩ := fn_ok mixed plain (gk_ok k55_ok 30) Try.func62 (fun c _ => LoopsOK.none (fun _ _ => rfl) c) h0
        exact ⟨h1, h2.fin he⟩
      · cases hs
noncomputable def vev61n_0 (t g n : Int) (d : List UInt8) (pa de : Int) (so : Bool) (we co la inc : Int) : Bool := bif decide (t ≤ (1 : Int)) then bif vev62n_0 t g n d pa de so we co la inc (8 : Int) then bif true then vev55_0 g (8 : Int) else false else false else false
noncomputable def vev61n_1 (t g n : Int) (d : List UInt8) (pa de : Int) (so : Bool) (we co la inc : Int) : Bool := bif bif decide (t ≤ (1 : Int)) then vev62n_0 t g n d pa de so we co la inc (8 : Int) else true then true else false
theorem ev61n (t g n : Int) (d : List UInt8) (pa de : Int) (so : Bool) (we co la inc : Int) : evFin (cfg Try.prog tab 100000 (gk k62n 30) noLsp 61 ([] : List Blk).length Try.f61.ntmps) ([] : List Blk).length Try.f61.resultTypes.toList Try.f61 [.agg [.int .u8 t, .int .u8 g, .int .i64 n, .str d, .int .i64 pa, .int .i64 de, .bool so, .int .u8 we, .int .u32 co, .int .i64 la, .int .i64 inc, .nil]] [] = bif vev61n_1 t g n d pa de so we co la inc then some (true, AV.bool (vev61n_0 t g n d pa de so we co la inc), []) else none := by
  have h : evFin (cfg Try.prog tab 100000 (gk k62n 30) noLsp 61 ([] : List Blk).length Try.f61.ntmps) ([] : List Blk).length Try.f61.resultTypes.toList Try.f61 [.agg [.int .u8 t, .int .u8 g, .int .i64 n, .str d, .int .i64 pa, .int .i64 de, .bool so, .int .u8 we, .int .u32 co, .int .i64 la, .int .i64 inc, .nil]] [] = bif bif decide (t ≤ (1 : Int)) then bif vev62n_0 t g n d pa de so we co la inc (8 : Int) then true else false else true then some (true, AV.bool (bif decide (t ≤ (1 : Int)) then bif vev62n_0 t g n d pa de so we co la inc (8 : Int) then bif true then vev55_0 g (8 : Int) else false else false else false), []) else none := by kernel_rfl
  rw [h]
  clear h
  unfold vev61n_0 vev61n_1
  generalize (vev62n_0 t g n d pa de so we co la inc (8 : Int)) = c0
  generalize (decide (t ≤ (1 : Int))) = c1
  cases c1; rfl; cases c0; rfl; rfl
-- spec vev61n_1 t g n d pa de so we co la inc ;; (true, AV.bool (vev61n_0 t g n d pa de so we co la inc), [])
noncomputable def sp61n : List AV → List Blk → Option (Bool × AV × List Blk)
  | [.agg [.int .u8 t, .int .u8 g, .int .i64 n, .str d, .int .i64 pa, .int .i64 de, .bool so, .int .u8 we, .int .u32 co, .int .i64 la, .int .i64 inc, .nil]], [] => spW (vev61n_1 t g n d pa de so we co la inc) (some ((true, AV.bool (vev61n_0 t g n d pa de so we co la inc), [])))
  | _, _ => none
noncomputable def k61n : Gam := fun f T C => match Nat.beq f 61 with
  | true => (sp61n T C).or (k62n f T C)
  | false => k62n f T C
theorem k61n_ok : GamOK Try.prog k61n := by
  intro f T C r outs h
  unfold k61n at h
  cases hf : Nat.beq f 61 with
  | false => rw [hf] at h; exact k62n_ok f T C r outs h
  | true =>
    have hf' := Nat.eq_of_beq_eq_true hf
    subst hf'
    rw [hf] at h
    dsimp only at h
    cases hs : sp61n T C with
    | none => rw [hs] at h; exact k62n_ok _ T C r outs h
    | some x =>
      rw [hs] at h
      have hx : x = (true, r, outs) := by simpa using h
      subst hx
      unfold sp61n at hs
      split at hs
      · rename_i t g n d pa de so we co la inc
        obtain ⟨hb, rfl, rfl⟩ := spT_inv hs
        have he := ev61n t g n d pa de so we co la inc
        rw [hb, cond_true] at he
        obtain ⟨r0, o0, h0, he⟩ := evFin_inv he
        obtain ⟨h1, h2⟩ := fn_ok mixed plain (gk_ok k62n_ok 30) Try.func61 (fun c _ => LoopsOK.none (fun _ _ => rfl) c) h0
        exact ⟨h1, h2.fin he⟩
      · cases hs
noncomputable def vev38_0 (t n : Int) : Bool := bif t == (0 : Int) then n == (0 : Int) else bif t == (1 : Int) then n == (0 : Int) else bif t == (2 : Int) then n == (0 : Int) else bif t == (3 : Int) then n == (0 : Int) else bif t == (9 : Int) then n == (0 : Int) else bif t == (4 : Int) then n != (0 : Int) else bif t == (6 : Int) then n != (0 : Int) else bif t == (7 : Int) then n != (0 : Int) else t == (5 : Int)
theorem ev38 (t n : Int) : evFin (cfg Try.prog tab 100000 (gk k61n 30) noLsp 38 ([] : List Blk).length Try.f38.ntmps) ([] : List Blk).length Try.f38.resultTypes.toList Try.f38 [.int .u8 t, .int .i64 n] [] = some (true, AV.bool (vev38_0 t n), []) := by
  have h : evFin (cfg Try.prog tab 100000 (gk k61n 30) noLsp 38 ([] : List Blk).length Try.f38.ntmps) ([] : List Blk).length Try.f38.resultTypes.toList Try.f38 [.int .u8 t, .int .i64 n] [] = bif t == (0 : Int) then bif t == (0 : Int) then some (true, AV.bool (n == (0 : Int)), []) else bif t == (4 : Int) then bif t == (4 : Int) then some (true, AV.bool (n != (0 : Int)), []) else some (true, AV.bool (t == (5 : Int)), []) else bif t == (6 : Int) then bif t == (6 : Int) then some (true, AV.bool (n != (0 : Int)), []) else some (true, AV.bool (t == (5 : Int)), []) else bif t == (7 : Int) then some (true, AV.bool (n != (0 : Int)), []) else some (true, AV.bool (t == (5 : Int)), []) else bif t == (1 : Int) then bif t == (1 : Int) then some (true, AV.bool (n == (0 : Int)), []) else bif t == (4 : Int) then bif t == (4 : Int) then some (true, AV.bool (n != (0 : Int)), []) else some (true, AV.bool (t == (5 : Int)), []) else bif t == (6 : Int) then bif t == (6 : Int) then some (true, AV.bool (n != (0 : Int)), []) else some (true, AV.bool (t == (5 : Int)), []) else bif t == (7 : Int) then some (true, AV.bool (n != (0 : Int)), []) else some (true, AV.bool (t == (5 : Int)), []) else bif t == (2 : Int) then bif t == (2 : Int) then some (true, AV.bool (n == (0 : Int)), []) else bif t == (4 : Int) then bif t == (4 : Int) then some (true, AV.bool (n != (0 : Int)), []) else some (true, AV.bool (t == (5 : Int)), []) else bif t == (6 : Int) then bif t == (6 : Int) then some (true, AV.bool (n != (0 : Int)), []) else some (true, AV.bool (t == (5 : Int)), []) else bif t == (7 : Int) then some (true, AV.bool (n != (0 : Int)), []) else some (true, AV.bool (t == (5 : Int)), []) else bif t == (3 : Int) then bif t == (3 : Int) then some (true, AV.bool (n == (0 : Int)), []) else bif t == (4 : Int) then bif t == (4 : Int) then some (true, AV.bool (n != (0 : Int)), []) else some (true, AV.bool (t == (5 : Int)), []) else bif t == (6 : Int) then bif t == (6 : Int) then some (true, AV.bool (n != (0 : Int)), []) else some (true, AV.bool (t == (5 : Int)), []) else bif t == (7 : Int) then some (true, AV.bool (n != (0 : Int)), []) else some (true, AV.bool (t == (5 : Int)), []) else bif t == (9 : Int) then some (true, AV.bool (n == (0 : Int)), []) else bif t == (4 : Int) then bif t == (4 : Int) then some (true, AV.bool (n != (0 : Int)), []) else some (true, AV.bool (t == (5 : Int)), []) else bif t == (6 : Int) then bif t == (6 : Int) then some (true, AV.bool (n != (0 : Int)), []) else some (true, AV.bool (t == (5 : Int)), []) else bif t == (7 : Int) then some (true, AV.bool (n != (0 : Int)), []) else some (true, AV.bool (t == (5 : Int)), []) := by kernel_rfl
  rw [h]
  clear h
  unfold vev38_0
  generalize (t == (7 : Int)) = c0
  generalize (t == (0 : Int)) = c1
  generalize (t == (1 : Int)) = c2
  generalize (t == (2 : Int)) = c3
  generalize (t == (3 : Int)) = c4
  generalize (t == (9 : Int)) = c5
  generalize (t == (4 : Int)) = c6
  generalize (t == (6 : Int)) = c7
  cases c1; cases c2; cases c3; cases c4; cases c5; cases c6; cases c7; cases c0; rfl; rfl; rfl; rfl; rfl; rfl; rfl; rfl; rfl
-- spec true ;; (true, AV.bool (vev38_0 t n), [])
noncomputable def sp38 : List AV → List Blk → Option (Bool × AV × List Blk)
  | [.int .u8 t, .int .i64 n], [] => spW (true) (some ((true, AV.bool (vev38_0 t n), [])))
  | _, _ => none
noncomputable def k38 : Gam := fun f T C => match Nat.beq f 38 with
  | true => (sp38 T C).or (k61n f T C)
  | false => k61n f T C
theorem k38_ok : GamOK Try.prog k38 := by
  intro f T C r outs h
  unfold k38 at h
  cases hf : Nat.beq f 38 with
  | false => rw [hf] at h; exact k61n_ok f T C r outs h
  | true =>
    have hf' := Nat.eq_of_beq_eq_true hf
    subst hf'
    rw [hf] at h
    dsimp only at h
    cases hs : sp38 T C with
    | none => rw [hs] at h; exact k61n_ok _ T C r outs h
    | some x =>
      rw [hs] at h
      have hx : x = (true, r, outs) := by simpa using h
      subst hx
      unfold sp38 at hs
      split at hs
      · rename_i t n
        obtain ⟨hb, rfl, rfl⟩ := spT_inv hs
        have he := ev38 t n
        obtain ⟨r0, o0, h0, he⟩ := evFin_inv he
        obtain ⟨h1, h2⟩ := fn_ok mixed plain (gk_ok k61n_ok 30) Try.func38 (fun c _ => LoopsOK.none (fun _ _ => rfl) c) h0
        exact ⟨h1, h2.fin he⟩
      · cases hs
noncomputable def vev40n_0 (t g n : Int) (d : List UInt8) (pa de : Int) (so : Bool) (we co la inc k : Int) : Bool := bif t == (3 : Int) then k != (4 : Int) else bif t == (8 : Int) then k != (4 : Int) else bif t == (4 : Int) then bif k.tmod (6 : Int) != (0 : Int) then true else bif vev62n_0 t g n d pa de so we co la inc (1 : Int) then bif vev55_0 g (1 : Int) then bif false then true else bif true then k != (0 : Int) else false else bif false then true else false else false else bif t == (6 : Int) then k != (8 : Int) else bif t == (7 : Int) then decide (k < (8 : Int)) else false
noncomputable def vev40n_1 (t g n : Int) (d : List UInt8) (pa de : Int) (so : Bool) (we co la inc k : Int) : Bool := bif t == (3 : Int) then true else bif t == (8 : Int) then true else bif t == (4 : Int) then bif bif k.tmod (6 : Int) != (0 : Int) then true else vev62n_0 t g n d pa de so we co la inc (1 : Int) then true else false else true
theorem ev40n (t g n : Int) (d : List UInt8) (pa de : Int) (so : Bool) (we co la inc k : Int) : evFin (cfg Try.prog tab 100000 (gk k38 30) noLsp 40 ([] : List Blk).length Try.f40.ntmps) ([] : List Blk).length Try.f40.resultTypes.toList Try.f40 [.agg [.int .u8 t, .int .u8 g, .int .i64 n, .str d, .int .i64 pa, .int .i64 de, .bool so, .int .u8 we, .int .u32 co, .int .i64 la, .int .i64 inc, .nil], .int .i64 k] [] = bif vev40n_1 t g n d pa de so we co la inc k then some (true, AV.bool (vev40n_0 t g n d pa de so we co la inc k), []) else none := by
  have h : evFin (cfg Try.prog tab 100000 (gk k38 30) noLsp 40 ([] : List Blk).length Try.f40.ntmps) ([] : List Blk).length Try.f40.resultTypes.toList Try.f40 [.agg [.int .u8 t, .int .u8 g, .int .i64 n, .str d, .int .i64 pa, .int .i64 de, .bool so, .int .u8 we, .int .u32 co, .int .i64 la, .int .i64 inc, .nil], .int .i64 k] [] = bif t == (3 : Int) then bif t == (3 : Int) then some (true, AV.bool (k != (4 : Int)), []) else bif t == (4 : Int) then bif bif k.tmod (6 : Int) != (0 : Int) then true else bif vev62n_0 t g n d pa de so we co la inc (1 : Int) then bif vev55_0 g (1 : Int) then true else true else false then some (true, AV.bool (bif k.tmod (6 : Int) != (0 : Int) then true else bif vev62n_0 t g n d pa de so we co la inc (1 : Int) then bif vev55_0 g (1 : Int) then bif false then true else bif true then k != (0 : Int) else false else bif false then true else false else false), []) else none else bif t == (6 : Int) then some (true, AV.bool (k != (8 : Int)), []) else bif t == (7 : Int) then some (true, AV.bool (decide (k < (8 : Int))), []) else some (true, AV.bool false, []) else bif t == (8 : Int) then some (true, AV.bool (k != (4 : Int)), []) else bif t == (4 : Int) then bif bif k.tmod (6 : Int) != (0 : Int) then true else bif vev62n_0 t g n d pa de so we co la inc (1 : Int) then bif vev55_0 g (1 : Int) then true else true else false then some (true, AV.bool (bif k.tmod (6 : Int) != (0 : Int) then true else bif vev62n_0 t g n d pa de so we co la inc (1 : Int) then bif vev55_0 g (1 : Int) then bif false then true else bif true then k != (0 : Int) else false else bif false then true else false else false), []) else none else bif t == (6 : Int) then some (true, AV.bool (k != (8 : Int)), []) else bif t == (7 : Int) then some (true, AV.bool (decide (k < (8 : Int))), []) else some (true, AV.bool false, []) := by kernel_rfl
  rw [h]
  clear h
  unfold vev40n_0 vev40n_1
  generalize (vev62n_0 t g n d pa de so we co la inc (1 : Int)) = c0
  generalize (k.tmod (6 : Int) != (0 : Int)) = c1
  generalize (t == (7 : Int)) = c2
  generalize (t == (4 : Int)) = c3
  generalize (t == (3 : Int)) = c4
  generalize (t == (8 : Int)) = c5
  generalize (t == (6 : Int)) = c6
  generalize (vev55_0 g (1 : Int)) = c7
  cases c4; cases c5; cases c3; cases c6; cases c2; rfl; rfl; rfl; cases c1; cases c0; rfl; cases c7; rfl; rfl; rfl; rfl; rfl
-- spec vev40n_1 t g n d pa de so we co la inc k ;; (true, AV.bool (vev40n_0 t g n d pa de so we co la inc k), [])
noncomputable def sp40n : List AV → List Blk → Option (Bool × AV × List Blk)
  | [.agg [.int .u8 t, .int .u8 g, .int .i64 n, .str d, .int .i64 pa, .int .i64 de, .bool so, .int .u8 we, .int .u32 co, .int .i64 la, .int .i64 inc, .nil], .int .i64 k], [] => spW (vev40n_1 t g n d pa de so we co la inc k) (some ((true, AV.bool (vev40n_0 t g n d pa de so we co la inc k), [])))
  | _, _ => none
noncomputable def k40n : Gam := fun f T C => match Nat.beq f 40 with
  | true => (sp40n T C).or (k38 f T C)
  | false => k38 f T C
theorem k40n_ok : GamOK Try.prog k40n := by
  intro f T C r outs h
  unfold k40n at h
  cases hf : Nat.beq f 40 with
  | false => rw [hf] at h; exact k38_ok f T C r outs h
  | true =>
    have hf' := Nat.eq_of_beq_eq_true hf
    subst hf'
    rw [hf] at h
    dsimp only at h
    cases hs : sp40n T C with
    | none => rw [hs] at h; exact k38_ok _ T C r outs h
    | some x =>
      rw [hs] at h
      have hx : x = (true, r, outs) := by simpa using h
      subst hx
      unfold sp40n at hs
      split at hs
      · rename_i t g n d pa de so we co la inc k
        obtain ⟨hb, rfl, rfl⟩ := spT_inv hs
        have he := ev40n t g n d pa de so we co la inc k
        rw [hb, cond_true] at he
        obtain ⟨r0, o0, h0, he⟩ := evFin_inv he
        obtain ⟨h1, h2⟩ := fn_ok mixed plain (gk_ok k38_ok 30) Try.func40 (fun c _ => LoopsOK.none (fun _ _ => rfl) c) h0
        exact ⟨h1, h2.fin he⟩
      · cases hs
noncomputable def rev41n_0 (t g n : Int) (d : List UInt8) (pa de : Int) (so : Bool) (we co la inc : Int) (s : List UInt8) : Int := (↑(s.getD (Int.toNat (0 : Int)) (0 : UInt8)).toNat : Int)
noncomputable def vev41n_0 (t g n : Int) (d : List UInt8) (pa de : Int) (so : Bool) (we co la inc : Int) (s : List UInt8) : Bool := decide (rev41n_0 t g n d pa de so we co la inc s ≥ (128 : Int))
noncomputable def vev41n_1 (t g n : Int) (d : List UInt8) (pa de : Int) (so : Bool) (we co la inc : Int) (s : List UInt8) : Int := (↑(s.getD (Int.toNat (4 : Int)) (0 : UInt8)).toNat : Int)
noncomputable def vev41n_2 (t g n : Int) (d : List UInt8) (pa de : Int) (so : Bool) (we co la inc : Int) (s : List UInt8) : Bool := bif vev43_1 s then bif decide ((0 : Int) ≤ (0 : Int)) && decide ((0 : Int) < (↑s.length : Int)) then bif decide ((0 : Int) ≤ (4 : Int)) && decide ((4 : Int) < (↑s.length : Int)) then true else false else false else false
theorem ev41n (t g n : Int) (d : List UInt8) (pa de : Int) (so : Bool) (we co la inc : Int) (s : List UInt8) : evFin (cfg Try.prog tab 100000 (gk k40n 30) noLsp 41 ([] : List Blk).length Try.f41.ntmps) ([] : List Blk).length Try.f41.resultTypes.toList Try.f41 [.agg [.int .u8 t, .int .u8 g, .int .i64 n, .str d, .int .i64 pa, .int .i64 de, .bool so, .int .u8 we, .int .u32 co, .int .i64 la, .int .i64 inc, .nil], .str s] [] = bif vev41n_2 t g n d pa de so we co la inc s then some (true, AV.agg [AV.int IntKind.u8 t, AV.int IntKind.u8 g, AV.int IntKind.i64 n, AV.str d, AV.int IntKind.i64 pa, AV.int IntKind.i64 (vev43_0 s), AV.bool (vev41n_0 t g n d pa de so we co la inc s), AV.int IntKind.u8 (vev41n_1 t g n d pa de so we co la inc s), AV.int IntKind.u32 co, AV.int IntKind.i64 la, AV.int IntKind.i64 inc, AV.sl Tk.imm [Kd.int IntKind.u16, Kd.int IntKind.u32] []], []) else none := by
  have h : evFin (cfg Try.prog tab 100000 (gk k40n 30) noLsp 41 ([] : List Blk).length Try.f41.ntmps) ([] : List Blk).length Try.f41.resultTypes.toList Try.f41 [.agg [.int .u8 t, .int .u8 g, .int .i64 n, .str d, .int .i64 pa, .int .i64 de, .bool so, .int .u8 we, .int .u32 co, .int .i64 la, .int .i64 inc, .nil], .str s] [] = bif vev43_1 s then bif decide ((0 : Int) ≤ (0 : Int)) && decide ((0 : Int) < (↑s.length : Int)) then bif decide ((0 : Int) ≤ (4 : Int)) && decide ((4 : Int) < (↑s.length : Int)) then some (true, AV.agg [AV.int IntKind.u8 t, AV.int IntKind.u8 g, AV.int IntKind.i64 n, AV.str d, AV.int IntKind.i64 pa, AV.int IntKind.i64 (vev43_0 s), AV.bool (decide (rev41n_0 t g n d pa de so we co la inc s ≥ (128 : Int))), AV.int IntKind.u8 (↑(s.getD (Int.toNat (4 : Int)) (0 : UInt8)).toNat : Int), AV.int IntKind.u32 co, AV.int IntKind.i64 la, AV.int IntKind.i64 inc, AV.sl Tk.imm [Kd.int IntKind.u16, Kd.int IntKind.u32] []], []) else none else none else none := by kernel_rfl
  rw [h]
  clear h
  unfold vev41n_0 vev41n_1 vev41n_2
  generalize (decide ((0 : Int) ≤ (4 : Int)) && decide ((4 : Int) < (↑s.length : Int))) = c0
  generalize (decide ((0 : Int) ≤ (0 : Int)) && decide ((0 : Int) < (↑s.length : Int))) = c1
  generalize (vev43_1 s) = c2
  cases c2; rfl; cases c1; rfl; cases c0; rfl; rfl
-- spec vev41n_2 t g n d pa de so we co la inc s ;; (true, AV.agg [AV.int IntKind.u8 t, AV.int IntKind.u8 g, AV.int IntKind.i64 n, AV.str d, AV.int IntKind.i64 pa, AV.int IntKind.i64 (vev43_0 s), AV.bool (vev41n_0 t g n d pa de so we co la inc s), AV.int IntKind.u8 (vev41n_1 t g n d pa de so we co la inc s), AV.int IntKind.u32 co, AV.int IntKind.i64 la, AV.int IntKind.i64 inc, AV.sl Tk.imm [Kd.int IntKind.u16, Kd.int IntKind.u32] []], [])
noncomputable def sp41n : List AV → List Blk → Option (Bool × AV × List Blk)
  | [.agg [.int .u8 t, .int .u8 g, .int .i64 n, .str d, .int .i64 pa, .int .i64 de, .bool so, .int .u8 we, .int .u32 co, .int .i64 la, .int .i64 inc, .nil], .str s], [] => spW (vev41n_2 t g n d pa de so we co la inc s) (some ((true, AV.agg [AV.int IntKind.u8 t, AV.int IntKind.u8 g, AV.int IntKind.i64 n, AV.str d, AV.int IntKind.i64 pa, AV.int IntKind.i64 (vev43_0 s), AV.bool (vev41n_0 t g n d pa de so we co la inc s), AV.int IntKind.u8 (vev41n_1 t g n d pa de so we co la inc s), AV.int IntKind.u32 co, AV.int IntKind.i64 la, AV.int IntKind.i64 inc, AV.sl Tk.imm [Kd.int IntKind.u16, Kd.int IntKind.u32] []], [])))
  | _, _ => none
noncomputable def k41n : Gam := fun f T C => match Nat.beq f 41 with
  | true => (sp41n T C).or (k40n f T C)
  | false => k40n f T C
theorem k41n_ok : GamOK Try.prog k41n := by
  intro f T C r outs h
  unfold k41n at h
  cases hf : Nat.beq f 41 with
  | false => rw [hf] at h; exact k40n_ok f T C r outs h
  | true =>
    have hf' := Nat.eq_of_beq_eq_true hf
    subst hf'
    rw [hf] at h
    dsimp only at h
    cases hs : sp41n T C with
    | none => rw [hs] at h; exact k40n_ok _ T C r outs h
    | some x =>
      rw [hs] at h
      have hx : x = (true, r, outs) := by simpa using h
      subst hx
      unfold sp41n at hs
      split at hs
      · rename_i t g n d pa de so we co la inc s
        obtain ⟨hb, rfl, rfl⟩ := spT_inv hs
        have he := ev41n t g n d pa de so we co la inc s
        rw [hb, cond_true] at he
        obtain ⟨r0, o0, h0, he⟩ := evFin_inv he
        obtain ⟨h1, h2⟩ := fn_ok mixed plain (gk_ok k40n_ok 30) Try.func41 (fun c _ => LoopsOK.none (fun _ _ => rfl) c) h0
        exact ⟨h1, h2.fin he⟩
      · cases hs
noncomputable def rev39n_0 (t g n : Int) (d : List UInt8) (pa de : Int) (so : Bool) (we co la inc : Int) (s : List UInt8) : Int := IntKind.i64.wrap (↑(s.getD (Int.toNat (0 : Int)) (0 : UInt8)).toNat : Int)
noncomputable def rev39n_1 (t g n : Int) (d : List UInt8) (pa de : Int) (so : Bool) (we co la inc : Int) (s : List UInt8) : List UInt8 := List.drop (Int.toNat (1 : Int)) s
noncomputable def rev39n_2 (t g n : Int) (d : List UInt8) (pa de : Int) (so : Bool) (we co la inc : Int) (s : List UInt8) : Int := (↑(rev39n_1 t g n d pa de so we co la inc s).length : Int)
noncomputable def rev39n_3 (t g n : Int) (d : List UInt8) (pa de : Int) (so : Bool) (we co la inc : Int) (s : List UInt8) : Int := IntKind.i64.wrap (rev39n_2 t g n d pa de so we co la inc s - rev39n_0 t g n d pa de so we co la inc s)
noncomputable def rev39n_4 (t g n : Int) (d : List UInt8) (pa de : Int) (so : Bool) (we co la inc : Int) (s : List UInt8) : List UInt8 := List.take (rev39n_3 t g n d pa de so we co la inc s).toNat (rev39n_1 t g n d pa de so we co la inc s)
noncomputable def rev39n_5 (t g n : Int) (d : List UInt8) (pa de : Int) (so : Bool) (we co la inc : Int) (s : List UInt8) : Int := (↑(rev39n_4 t g n d pa de so we co la inc s).length : Int)
noncomputable def vev39n_0 (t g n : Int) (d : List UInt8) (pa de : Int) (so : Bool) (we co la inc : Int) (s : List UInt8) : Int := bif vev61n_0 t g n d pa de so we co la inc then bif s == (ByteArray.mk #[]).data.toList then (0 : Int) else bif decide (rev39n_0 t g n d pa de so we co la inc s > rev39n_2 t g n d pa de so we co la inc s) then (0 : Int) else bif bif t == (1 : Int) then bif vev62n_0 t g n d (rev39n_0 t g n d pa de so we co la inc s) de so we co la inc (32 : Int) then vev55_0 g (32 : Int) else false else false then bif decide (rev39n_5 t g n d pa de so we co la inc s < (5 : Int)) then (0 : Int) else t else t else bif bif t == (1 : Int) then bif vev62n_0 t g n d pa de so we co la inc (32 : Int) then vev55_0 g (32 : Int) else false else false then bif decide ((↑s.length : Int) < (5 : Int)) then (0 : Int) else t else t
noncomputable def vev39n_1 (t g n : Int) (d : List UInt8) (pa de : Int) (so : Bool) (we co la inc : Int) (s : List UInt8) : Int := bif vev61n_0 t g n d pa de so we co la inc then bif s == (ByteArray.mk #[]).data.toList then (0 : Int) else bif decide (rev39n_0 t g n d pa de so we co la inc s > rev39n_2 t g n d pa de so we co la inc s) then (0 : Int) else bif bif t == (1 : Int) then bif vev62n_0 t g n d (rev39n_0 t g n d pa de so we co la inc s) de so we co la inc (32 : Int) then vev55_0 g (32 : Int) else false else false then bif decide (rev39n_5 t g n d pa de so we co la inc s < (5 : Int)) then (0 : Int) else g else g else bif bif t == (1 : Int) then bif vev62n_0 t g n d pa de so we co la inc (32 : Int) then vev55_0 g (32 : Int) else false else false then bif decide ((↑s.length : Int) < (5 : Int)) then (0 : Int) else g else g
noncomputable def vev39n_2 (t g n : Int) (d : List UInt8) (pa de : Int) (so : Bool) (we co la inc : Int) (s : List UInt8) : Int := bif vev61n_0 t g n d pa de so we co la inc then bif s == (ByteArray.mk #[]).data.toList then (0 : Int) else bif decide (rev39n_0 t g n d pa de so we co la inc s > rev39n_2 t g n d pa de so we co la inc s) then (0 : Int) else bif bif t == (1 : Int) then bif vev62n_0 t g n d (rev39n_0 t g n d pa de so we co la inc s) de so we co la inc (32 : Int) then vev55_0 g (32 : Int) else false else false then bif decide (rev39n_5 t g n d pa de so we co la inc s < (5 : Int)) then (0 : Int) else n else n else bif bif t == (1 : Int) then bif vev62n_0 t g n d pa de so we co la inc (32 : Int) then vev55_0 g (32 : Int) else false else false then bif decide ((↑s.length : Int) < (5 : Int)) then (0 : Int) else n else n
noncomputable def vev39n_3 (t g n : Int) (d : List UInt8) (pa de : Int) (so : Bool) (we co la inc : Int) (s : List UInt8) : List UInt8 := bif vev61n_0 t g n d pa de so we co la inc then bif s == (ByteArray.mk #[]).data.toList then (ByteArray.mk #[]).data.toList else bif decide (rev39n_0 t g n d pa de so we co la inc s > rev39n_2 t g n d pa de so we co la inc s) then (ByteArray.mk #[]).data.toList else bif bif t == (1 : Int) then bif vev62n_0 t g n d (rev39n_0 t g n d pa de so we co la inc s) de so we co la inc (32 : Int) then vev55_0 g (32 : Int) else false else false then bif decide (rev39n_5 t g n d pa de so we co la inc s < (5 : Int)) then (ByteArray.mk #[]).data.toList else List.drop (Int.toNat (5 : Int)) (rev39n_4 t g n d pa de so we co la inc s) else rev39n_4 t g n d pa de so we co la inc s else bif bif t == (1 : Int) then bif vev62n_0 t g n d pa de so we co la inc (32 : Int) then vev55_0 g (32 : Int) else false else false then bif decide ((↑s.length : Int) < (5 : Int)) then (ByteArray.mk #[]).data.toList else List.drop (Int.toNat (5 : Int)) s else s
noncomputable def vev39n_4 (t g n : Int) (d : List UInt8) (pa de : Int) (so : Bool) (we co la inc : Int) (s : List UInt8) : Int := bif vev61n_0 t g n d pa de so we co la inc then bif s == (ByteArray.mk #[]).data.toList then (0 : Int) else bif decide (rev39n_0 t g n d pa de so we co la inc s > rev39n_2 t g n d pa de so we co la inc s) then (0 : Int) else bif bif t == (1 : Int) then bif vev62n_0 t g n d (rev39n_0 t g n d pa de so we co la inc s) de so we co la inc (32 : Int) then vev55_0 g (32 : Int) else false else false then bif decide (rev39n_5 t g n d pa de so we co la inc s < (5 : Int)) then (0 : Int) else rev39n_0 t g n d pa de so we co la inc s else rev39n_0 t g n d pa de so we co la inc s else bif bif t == (1 : Int) then bif vev62n_0 t g n d pa de so we co la inc (32 : Int) then vev55_0 g (32 : Int) else false else false then bif decide ((↑s.length : Int) < (5 : Int)) then (0 : Int) else pa else pa
noncomputable def vev39n_5 (t g n : Int) (d : List UInt8) (pa de : Int) (so : Bool) (we co la inc : Int) (s : List UInt8) : Int := bif vev61n_0 t g n d pa de so we co la inc then bif s == (ByteArray.mk #[]).data.toList then (0 : Int) else bif decide (rev39n_0 t g n d pa de so we co la inc s > rev39n_2 t g n d pa de so we co la inc s) then (0 : Int) else bif bif t == (1 : Int) then bif vev62n_0 t g n d (rev39n_0 t g n d pa de so we co la inc s) de so we co la inc (32 : Int) then vev55_0 g (32 : Int) else false else false then bif decide (rev39n_5 t g n d pa de so we co la inc s < (5 : Int)) then (0 : Int) else vev43_0 (rev39n_4 t g n d pa de so we co la inc s) else de else bif bif t == (1 : Int) then bif vev62n_0 t g n d pa de so we co la inc (32 : Int) then vev55_0 g (32 : Int) else false else false then bif decide ((↑s.length : Int) < (5 : Int)) then (0 : Int) else vev43_0 s else de
noncomputable def vev39n_6 (t g n : Int) (d : List UInt8) (pa de : Int) (so : Bool) (we co la inc : Int) (s : List UInt8) : Bool := bif vev61n_0 t g n d pa de so we co la inc then bif s == (ByteArray.mk #[]).data.toList then false else bif decide (rev39n_0 t g n d pa de so we co la inc s > rev39n_2 t g n d pa de so we co la inc s) then false else bif bif t == (1 : Int) then bif vev62n_0 t g n d (rev39n_0 t g n d pa de so we co la inc s) de so we co la inc (32 : Int) then vev55_0 g (32 : Int) else false else false then bif decide (rev39n_5 t g n d pa de so we co la inc s < (5 : Int)) then false else vev41n_0 t g n d (rev39n_0 t g n d pa de so we co la inc s) de so we co la inc (rev39n_4 t g n d pa de so we co la inc s) else so else bif bif t == (1 : Int) then bif vev62n_0 t g n d pa de so we co la inc (32 : Int) then vev55_0 g (32 : Int) else false else false then bif decide ((↑s.length : Int) < (5 : Int)) then false else vev41n_0 t g n d pa de so we co la inc s else so
noncomputable def vev39n_7 (t g n : Int) (d : List UInt8) (pa de : Int) (so : Bool) (we co la inc : Int) (s : List UInt8) : Int := bif vev61n_0 t g n d pa de so we co la inc then bif s == (ByteArray.mk #[]).data.toList then (0 : Int) else bif decide (rev39n_0 t g n d pa de so we co la inc s > rev39n_2 t g n d pa de so we co la inc s) then (0 : Int) else bif bif t == (1 : Int) then bif vev62n_0 t g n d (rev39n_0 t g n d pa de so we co la inc s) de so we co la inc (32 : Int) then vev55_0 g (32 : Int) else false else false then bif decide (rev39n_5 t g n d pa de so we co la inc s < (5 : Int)) then (0 : Int) else vev41n_1 t g n d (rev39n_0 t g n d pa de so we co la inc s) de so we co la inc (rev39n_4 t g n d pa de so we co la inc s) else we else bif bif t == (1 : Int) then bif vev62n_0 t g n d pa de so we co la inc (32 : Int) then vev55_0 g (32 : Int) else false else false then bif decide ((↑s.length : Int) < (5 : Int)) then (0 : Int) else vev41n_1 t g n d pa de so we co la inc s else we
noncomputable def vev39n_8 (t g n : Int) (d : List UInt8) (pa de : Int) (so : Bool) (we co la inc : Int) (s : List UInt8) : Int := bif vev61n_0 t g n d pa de so we co la inc then bif s == (ByteArray.mk #[]).data.toList then (0 : Int) else bif decide (rev39n_0 t g n d pa de so we co la inc s > rev39n_2 t g n d pa de so we co la inc s) then (0 : Int) else bif bif t == (1 : Int) then bif vev62n_0 t g n d (rev39n_0 t g n d pa de so we co la inc s) de so we co la inc (32 : Int) then vev55_0 g (32 : Int) else false else false then bif decide (rev39n_5 t g n d pa de so we co la inc s < (5 : Int)) then (0 : Int) else co else co else bif bif t == (1 : Int) then bif vev62n_0 t g n d pa de so we co la inc (32 : Int) then vev55_0 g (32 : Int) else false else false then bif decide ((↑s.length : Int) < (5 : Int)) then (0 : Int) else co else co
noncomputable def vev39n_9 (t g n : Int) (d : List UInt8) (pa de : Int) (so : Bool) (we co la inc : Int) (s : List UInt8) : Int := bif vev61n_0 t g n d pa de so we co la inc then bif s == (ByteArray.mk #[]).data.toList then (0 : Int) else bif decide (rev39n_0 t g n d pa de so we co la inc s > rev39n_2 t g n d pa de so we co la inc s) then (0 : Int) else bif bif t == (1 : Int) then bif vev62n_0 t g n d (rev39n_0 t g n d pa de so we co la inc s) de so we co la inc (32 : Int) then vev55_0 g (32 : Int) else false else false then bif decide (rev39n_5 t g n d pa de so we co la inc s < (5 : Int)) then (0 : Int) else la else la else bif bif t == (1 : Int) then bif vev62n_0 t g n d pa de so we co la inc (32 : Int) then vev55_0 g (32 : Int) else false else false then bif decide ((↑s.length : Int) < (5 : Int)) then (0 : Int) else la else la
noncomputable def vev39n_10 (t g n : Int) (d : List UInt8) (pa de : Int) (so : Bool) (we co la inc : Int) (s : List UInt8) : Int := bif vev61n_0 t g n d pa de so we co la inc then bif s == (ByteArray.mk #[]).data.toList then (0 : Int) else bif decide (rev39n_0 t g n d pa de so we co la inc s > rev39n_2 t g n d pa de so we co la inc s) then (0 : Int) else bif bif t == (1 : Int) then bif vev62n_0 t g n d (rev39n_0 t g n d pa de so we co la inc s) de so we co la inc (32 : Int) then vev55_0 g (32 : Int) else false else false then bif decide (rev39n_5 t g n d pa de so we co la inc s < (5 : Int)) then (0 : Int) else inc else inc else bif bif t == (1 : Int) then bif vev62n_0 t g n d pa de so we co la inc (32 : Int) then vev55_0 g (32 : Int) else false else false then bif decide ((↑s.length : Int) < (5 : Int)) then (0 : Int) else inc else inc
noncomputable def vev39n_11 (t g n : Int) (d : List UInt8) (pa de : Int) (so : Bool) (we co la inc : Int) (s : List UInt8) : Int := bif vev61n_0 t g n d pa de so we co la inc then bif s == (ByteArray.mk #[]).data.toList then (6 : Int) else bif decide (rev39n_0 t g n d pa de so we co la inc s > rev39n_2 t g n d pa de so we co la inc s) then (1 : Int) else bif bif t == (1 : Int) then bif vev62n_0 t g n d (rev39n_0 t g n d pa de so we co la inc s) de so we co la inc (32 : Int) then vev55_0 g (32 : Int) else false else false then bif decide (rev39n_5 t g n d pa de so we co la inc s < (5 : Int)) then (6 : Int) else (0 : Int) else (0 : Int) else bif bif t == (1 : Int) then bif vev62n_0 t g n d pa de so we co la inc (32 : Int) then vev55_0 g (32 : Int) else false else false then bif decide ((↑s.length : Int) < (5 : Int)) then (6 : Int) else (0 : Int) else (0 : Int)
noncomputable def vev39n_12 (t g n : Int) (d : List UInt8) (pa de : Int) (so : Bool) (we co la inc : Int) (s : List UInt8) : Bool := bif vev61n_1 t g n d pa de so we co la inc then bif vev61n_0 t g n d pa de so we co la inc then bif s == (ByteArray.mk #[]).data.toList then true else bif decide ((0 : Int) ≤ (0 : Int)) && decide ((0 : Int) < (↑s.length : Int)) then bif bnd (1 : Int) (↑s.length : Int) (↑s.length : Int) then bif decide (rev39n_0 t g n d pa de so we co la inc s > rev39n_2 t g n d pa de so we co la inc s) then true else bif bnd (0 : Int) (rev39n_3 t g n d pa de so we co la inc s) (rev39n_2 t g n d pa de so we co la inc s) then bif bif t == (1 : Int) then vev62n_0 t g n d (rev39n_0 t g n d pa de so we co la inc s) de so we co la inc (32 : Int) else true then bif bif t == (1 : Int) then bif vev62n_0 t g n d (rev39n_0 t g n d pa de so we co la inc s) de so we co la inc (32 : Int) then vev55_0 g (32 : Int) else false else false then bif decide (rev39n_5 t g n d pa de so we co la inc s < (5 : Int)) then true else bif vev41n_2 t g n d (rev39n_0 t g n d pa de so we co la inc s) de so we co la inc (rev39n_4 t g n d pa de so we co la inc s) then bif bnd (5 : Int) (rev39n_5 t g n d pa de so we co la inc s) (rev39n_5 t g n d pa de so we co la inc s) then true else false else false else true else false else false else false else false else bif bif t == (1 : Int) then vev62n_0 t g n d pa de so we co la inc (32 : Int) else true then bif bif t == (1 : Int) then bif vev62n_0 t g n d pa de so we co la inc (32 : Int) then vev55_0 g (32 : Int) else false else false then bif decide ((↑s.length : Int) < (5 : Int)) then true else bif vev41n_2 t g n d pa de so we co la inc s then bif bnd (5 : Int) (↑s.length : Int) (↑s.length : Int) then true else false else false else true else false else false
theorem ev39n (t g n : Int) (d : List UInt8) (pa de : Int) (so : Bool) (we co la inc : Int) (s : List UInt8) : evFin (cfg Try.prog tab 100000 (gk k41n 30) noLsp 39 ([] : List Blk).length Try.f39.ntmps) ([] : List Blk).length Try.f39.resultTypes.toList Try.f39 [.agg [.int .u8 t, .int .u8 g, .int .i64 n, .str d, .int .i64 pa, .int .i64 de, .bool so, .int .u8 we, .int .u32 co, .int .i64 la, .int .i64 inc, .nil], .str s] [] = bif vev39n_12 t g n d pa de so we co la inc s then some (true, AV.tup [AV.agg [AV.int IntKind.u8 (vev39n_0 t g n d pa de so we co la inc s), AV.int IntKind.u8 (vev39n_1 t g n d pa de so we co la inc s), AV.int IntKind.i64 (vev39n_2 t g n d pa de so we co la inc s), AV.str (vev39n_3 t g n d pa de so we co la inc s), AV.int IntKind.i64 (vev39n_4 t g n d pa de so we co la inc s), AV.int IntKind.i64 (vev39n_5 t g n d pa de so we co la inc s), AV.bool (vev39n_6 t g n d pa de so we co la inc s), AV.int IntKind.u8 (vev39n_7 t g n d pa de so we co la inc s), AV.int IntKind.u32 (vev39n_8 t g n d pa de so we co la inc s), AV.int IntKind.i64 (vev39n_9 t g n d pa de so we co la inc s), AV.int IntKind.i64 (vev39n_10 t g n d pa de so we co la inc s), AV.sl Tk.imm [Kd.int IntKind.u16, Kd.int IntKind.u32] []], AV.agg [AV.int IntKind.i64 (vev39n_11 t g n d pa de so we co la inc s), AV.int IntKind.i64 (0 : Int)]], []) else none := by
  have h : evFin (cfg Try.prog tab 100000 (gk k41n 30) noLsp 39 ([] : List Blk).length Try.f39.ntmps) ([] : List Blk).length Try.f39.resultTypes.toList Try.f39 [.agg [.int .u8 t, .int .u8 g, .int .i64 n, .str d, .int .i64 pa, .int .i64 de, .bool so, .int .u8 we, .int .u32 co, .int .i64 la, .int .i64 inc, .nil], .str s] [] = bif vev61n_1 t g n d pa de so we co la inc then bif vev61n_0 t g n d pa de so we co la inc then bif s == (ByteArray.mk #[]).data.toList then some (true, AV.tup [AV.agg [AV.int IntKind.u8 (0 : Int), AV.int IntKind.u8 (0 : Int), AV.int IntKind.i64 (0 : Int), AV.str (ByteArray.mk #[]).data.toList, AV.int IntKind.i64 (0 : Int), AV.int IntKind.i64 (0 : Int), AV.bool false, AV.int IntKind.u8 (0 : Int), AV.int IntKind.u32 (0 : Int), AV.int IntKind.i64 (0 : Int), AV.int IntKind.i64 (0 : Int), AV.sl Tk.imm [Kd.int IntKind.u16, Kd.int IntKind.u32] []], AV.agg [AV.int IntKind.i64 (6 : Int), AV.int IntKind.i64 (0 : Int)]], []) else bif decide ((0 : Int) ≤ (0 : Int)) && decide ((0 : Int) < (↑s.length : Int)) then bif bnd (1 : Int) (↑s.length : Int) (↑s.length : Int) then bif decide (rev39n_0 t g n d pa de so we co la inc s > rev39n_2 t g n d pa de so we co la inc s) then some (true, AV.tup [AV.agg [AV.int IntKind.u8 (0 : Int), AV.int IntKind.u8 (0 : Int), AV.int IntKind.i64 (0 : Int), AV.str (ByteArray.mk #[]).data.toList, AV.int IntKind.i64 (0 : Int), AV.int IntKind.i64 (0 : Int), AV.bool false, AV.int IntKind.u8 (0 : Int), AV.int IntKind.u32 (0 : Int), AV.int IntKind.i64 (0 : Int), AV.int IntKind.i64 (0 : Int), AV.sl Tk.imm [Kd.int IntKind.u16, Kd.int IntKind.u32] []], AV.agg [AV.int IntKind.i64 (1 : Int), AV.int IntKind.i64 (0 : Int)]], []) else bif bnd (0 : Int) (rev39n_3 t g n d pa de so we co la inc s) (rev39n_2 t g n d pa de so we co la inc s) then bif bif t == (1 : Int) then bif vev62n_0 t g n d (rev39n_0 t g n d pa de so we co la inc s) de so we co la inc (32 : Int) then true else false else true then bif bif t == (1 : Int) then bif vev62n_0 t g n d (rev39n_0 t g n d pa de so we co la inc s) de so we co la inc (32 : Int) then bif true then vev55_0 g (32 : Int) else false else false else false then bif decide (rev39n_5 t g n d pa de so we co la inc s < (5 : Int)) then some (true, AV.tup [AV.agg [AV.int IntKind.u8 (0 : Int), AV.int IntKind.u8 (0 : Int), AV.int IntKind.i64 (0 : Int), AV.str (ByteArray.mk #[]).data.toList, AV.int IntKind.i64 (0 : Int), AV.int IntKind.i64 (0 : Int), AV.bool false, AV.int IntKind.u8 (0 : Int), AV.int IntKind.u32 (0 : Int), AV.int IntKind.i64 (0 : Int), AV.int IntKind.i64 (0 : Int), AV.sl Tk.imm [Kd.int IntKind.u16, Kd.int IntKind.u32] []], AV.agg [AV.int IntKind.i64 (6 : Int), AV.int IntKind.i64 (0 : Int)]], []) else bif vev41n_2 t g n d (rev39n_0 t g n d pa de so we co la inc s) de so we co la inc (rev39n_4 t g n d pa de so we co la inc s) then bif bnd (5 : Int) (rev39n_5 t g n d pa de so we co la inc s) (rev39n_5 t g n d pa de so we co la inc s) then some (true, AV.tup [AV.agg [AV.int IntKind.u8 t, AV.int IntKind.u8 g, AV.int IntKind.i64 n, AV.str (List.drop (Int.toNat (5 : Int)) (rev39n_4 t g n d pa de so we co la inc s)), AV.int IntKind.i64 (rev39n_0 t g n d pa de so we co la inc s), AV.int IntKind.i64 (vev43_0 (rev39n_4 t g n d pa de so we co la inc s)), AV.bool (vev41n_0 t g n d (rev39n_0 t g n d pa de so we co la inc s) de so we co la inc (rev39n_4 t g n d pa de so we co la inc s)), AV.int IntKind.u8 (vev41n_1 t g n d (rev39n_0 t g n d pa de so we co la inc s) de so we co la inc (rev39n_4 t g n d pa de so we co la inc s)), AV.int IntKind.u32 co, AV.int IntKind.i64 la, AV.int IntKind.i64 inc, AV.sl Tk.imm [Kd.int IntKind.u16, Kd.int IntKind.u32] []], AV.agg [AV.int IntKind.i64 (0 : Int), AV.int IntKind.i64 (0 : Int)]], []) else none else none else some (true, AV.tup [AV.agg [AV.int IntKind.u8 t, AV.int IntKind.u8 g, AV.int IntKind.i64 n, AV.str (rev39n_4 t g n d pa de so we co la inc s), AV.int IntKind.i64 (rev39n_0 t g n d pa de so we co la inc s), AV.int IntKind.i64 de, AV.bool so, AV.int IntKind.u8 we, AV.int IntKind.u32 co, AV.int IntKind.i64 la, AV.int IntKind.i64 inc, AV.sl Tk.imm [Kd.int IntKind.u16, Kd.int IntKind.u32] []], AV.agg [AV.int IntKind.i64 (0 : Int), AV.int IntKind.i64 (0 : Int)]], []) else none else none else none else none else bif bif t == (1 : Int) then bif vev62n_0 t g n d pa de so we co la inc (32 : Int) then true else false else true then bif bif t == (1 : Int) then bif vev62n_0 t g n d pa de so we co la inc (32 : Int) then bif true then vev55_0 g (32 : Int) else false else false else false then bif decide ((↑s.length : Int) < (5 : Int)) then some (true, AV.tup [AV.agg [AV.int IntKind.u8 (0 : Int), AV.int IntKind.u8 (0 : Int), AV.int IntKind.i64 (0 : Int), AV.str (ByteArray.mk #[]).data.toList, AV.int IntKind.i64 (0 : Int), AV.int IntKind.i64 (0 : Int), AV.bool false, AV.int IntKind.u8 (0 : Int), AV.int IntKind.u32 (0 : Int), AV.int IntKind.i64 (0 : Int), AV.int IntKind.i64 (0 : Int), AV.sl Tk.imm [Kd.int IntKind.u16, Kd.int IntKind.u32] []], AV.agg [AV.int IntKind.i64 (6 : Int), AV.int IntKind.i64 (0 : Int)]], []) else bif vev41n_2 t g n d pa de so we co la inc s then bif bnd (5 : Int) (↑s.length : Int) (↑s.length : Int) then some (true, AV.tup [AV.agg [AV.int IntKind.u8 t, AV.int IntKind.u8 g, AV.int IntKind.i64 n, AV.str (List.drop (Int.toNat (5 : Int)) s), AV.int IntKind.i64 pa, AV.int IntKind.i64 (vev43_0 s), AV.bool (vev41n_0 t g n d pa de so we co la inc s), AV.int IntKind.u8 (vev41n_1 t g n d pa de so we co la inc s), AV.int IntKind.u32 co, AV.int IntKind.i64 la, AV.int IntKind.i64 inc, AV.sl Tk.imm [Kd.int IntKind.u16, Kd.int IntKind.u32] []], AV.agg [AV.int IntKind.i64 (0 : Int), AV.int IntKind.i64 (0 : Int)]], []) else none else none else some (true, AV.tup [AV.agg [AV.int IntKind.u8 t, AV.int IntKind.u8 g, AV.int IntKind.i64 n, AV.str s, AV.int IntKind.i64 pa, AV.int IntKind.i64 de, AV.bool so, AV.int IntKind.u8 we, AV.int IntKind.u32 co, AV.int IntKind.i64 la, AV.int IntKind.i64 inc, AV.sl Tk.imm [Kd.int IntKind.u16, Kd.int IntKind.u32] []], AV.agg [AV.int IntKind.i64 (0 : Int), AV.int IntKind.i64 (0 : Int)]], []) else none else none := by kernel_rfl
  rw [h]
  clear h
  unfold vev39n_0 vev39n_1 vev39n_2 vev39n_3 vev39n_4 vev39n_5 vev39n_6 vev39n_7 vev39n_8 vev39n_9 vev39n_10 vev39n_11 vev39n_12
  generalize (decide (rev39n_0 t g n d pa de so we co la inc s > rev39n_2 t g n d pa de so we co la inc s)) = c0
  generalize (decide ((0 : Int) ≤ (0 : Int)) && decide ((0 : Int) < (↑s.length : Int))) = c1
  generalize (decide (rev39n_5 t g n d pa de so we co la inc s < (5 : Int))) = c2
  generalize (vev41n_2 t g n d (rev39n_0 t g n d pa de so we co la inc s) de so we co la inc (rev39n_4 t g n d pa de so we co la inc s)) = c3
  generalize (bnd (0 : Int) (rev39n_3 t g n d pa de so we co la inc s) (rev39n_2 t g n d pa de so we co la inc s)) = c4
  generalize (bnd (5 : Int) (rev39n_5 t g n d pa de so we co la inc s) (rev39n_5 t g n d pa de so we co la inc s)) = c5
  generalize (vev62n_0 t g n d (rev39n_0 t g n d pa de so we co la inc s) de so we co la inc (32 : Int)) = c6
  generalize (decide ((↑s.length : Int) < (5 : Int))) = c7
  generalize (bnd (5 : Int) (↑s.length : Int) (↑s.length : Int)) = c8
  generalize (bnd (1 : Int) (↑s.length : Int) (↑s.length : Int)) = c9
  generalize (vev62n_0 t g n d pa de so we co la inc (32 : Int)) = c10
  generalize (s == (ByteArray.mk #[]).data.toList) = c11
  generalize (vev41n_2 t g n d pa de so we co la inc s) = c12
  generalize (vev61n_1 t g n d pa de so we co la inc) = c13
  generalize (vev61n_0 t g n d pa de so we co la inc) = c14
  generalize (t == (1 : Int)) = c15
  generalize (vev55_0 g (32 : Int)) = c16
  cases c13; rfl; cases c14; cases c15; rfl; cases c10; rfl; cases c16; rfl; cases c7; cases c12; rfl; cases c8; rfl; rfl; rfl; cases c11; cases c1
  rfl; cases c9; rfl; cases c0; cases c4; rfl; cases c15; rfl; cases c6; rfl; cases c16; rfl; cases c2; cases c3; rfl; cases c5; rfl; rfl; rfl; rfl
  rfl
-- spec vev39n_12 t g n d pa de so we co la inc s ;; (true, AV.tup [AV.agg [AV.int IntKind.u8 (vev39n_0 t g n d pa de so we co la inc s), AV.int IntKind.u8 (vev39n_1 t g n d pa de so we co la inc s), AV.int IntKind.i64 (vev39n_2 t g n d pa de so we co la inc s), AV.str (vev39n_3 t g n d pa de so we co la inc s), AV.int IntKind.i64 (vev39n_4 t g n d pa de so we co la inc s), AV.int IntKind.i64 (vev39n_5 t g n d pa de so we co la inc s), AV.bool (vev39n_6 t g n d pa de so we co la inc s), AV.int IntKind.u8 (vev39n_7 t g n d pa de so we co la inc s), AV.int IntKind.u32 (vev39n_8 t g n d pa de so we co la inc s), AV.int IntKind.i64 (vev39n_9 t g n d pa de so we co la inc s), AV.int IntKind.i64 (vev39n_10 t g n d pa de so we co la inc s), AV.sl Tk.imm [Kd.int IntKind.u16, Kd.int IntKind.u32] []], AV.agg [AV.int IntKind.i64 (vev39n_11 t g n d pa de so we co la inc s), AV.int IntKind.i64 (0 : Int)]], [])
noncomputable def sp39n : List AV → List Blk → Option (Bool × AV × List Blk)
  | [.agg [.int .u8 t, .int .u8 g, .int .i64 n, .str d, .int .i64 pa, .int .i64 de, .bool so, .int .u8 we, .int .u32 co, .int .i64 la, .int .i64 inc, .nil], .str s], [] => spW (vev39n_12 t g n d pa de so we co la inc s) (some ((true, AV.tup [AV.agg [AV.int IntKind.u8 (vev39n_0 t g n d pa de so we co la inc s), AV.int IntKind.u8 (vev39n_1 t g n d pa de so we co la inc s), AV.int IntKind.i64 (vev39n_2 t g n d pa de so we co la inc s), AV.str (vev39n_3 t g n d pa de so we co la inc s), AV.int IntKind.i64 (vev39n_4 t g n d pa de so we co la inc s), AV.int IntKind.i64 (vev39n_5 t g n d pa de so we co la inc s), AV.bool (vev39n_6 t g n d pa de so we co la inc s), AV.int IntKind.u8 (vev39n_7 t g n d pa de so we co la inc s), AV.int IntKind.u32 (vev39n_8 t g n d pa de so we co la inc s), AV.int IntKind.i64 (vev39n_9 t g n d pa de so we co la inc s), AV.int IntKind.i64 (vev39n_10 t g n d pa de so we co la inc s), AV.sl Tk.imm [Kd.int IntKind.u16, Kd.int IntKind.u32] []], AV.agg [AV.int IntKind.i64 (vev39n_11 t g n d pa de so we co la inc s), AV.int IntKind.i64 (0 : Int)]], [])))
  | _, _ => none
noncomputable def k39n : Gam := fun f T C => match Nat.beq f 39 with
  | true => (sp39n T C).or (k41n f T C)
  | false => k41n f T C
theorem k39n_ok : GamOK Try.prog k39n := by
  intro f T C r outs h
  unfold k39n at h
  cases hf : Nat.beq f 39 with
  | false => rw [hf] at h; exact k41n_ok f T C r outs h
  | true =>
    have hf' := Nat.eq_of_beq_eq_true hf
    subst hf'
    rw [hf] at h
    dsimp only at h
    cases hs : sp39n T C with
    | none => rw [hs] at h; exact k41n_ok _ T C r outs h
    | some x =>
      rw [hs] at h
      have hx : x = (true, r, outs) := by simpa using h
      subst hx
      unfold sp39n at hs
      split at hs
      · rename_i t g n d pa de so we co la inc s
        obtain ⟨hb, rfl, rfl⟩ := spT_inv hs
        have he := ev39n t g n d pa de so we co la inc s
        rw [hb, cond_true] at he
        obtain ⟨r0, o0, h0, he⟩ := evFin_inv he
        obtain ⟨h1, h2⟩ := fn_ok mixed plain (gk_ok k41n_ok 30) Try.func39 (fun c _ => LoopsOK.none (fun _ _ => rfl) c) h0
        exact ⟨h1, h2.fin he⟩
      · cases hs
noncomputable def rn13_18_0 (t1 : List UInt8) (t7 b1_0 b1_1 b1_2 : Int) (b1_3 : List UInt8) (b1_4 b1_5 : Int) (b1_6 : Bool) (b1_7 b1_8 b1_9 b1_10 b3_0 b3_1 b3_2 : Int) (b3_3 : List UInt8) (b3_4 b3_5 : Int) (b3_6 : Bool) (b3_7 b3_8 b3_9 b3_10 b4_0 b4_1 : Int) (b5 : List (List AV)) : Int := IntKind.i64.wrap (t7 + (2 : Int))
noncomputable def rn13_18_1 (t1 : List UInt8) (t7 b1_0 b1_1 b1_2 : Int) (b1_3 : List UInt8) (b1_4 b1_5 : Int) (b1_6 : Bool) (b1_7 b1_8 b1_9 b1_10 b3_0 b3_1 b3_2 : Int) (b3_3 : List UInt8) (b3_4 b3_5 : Int) (b3_6 : Bool) (b3_7 b3_8 b3_9 b3_10 b4_0 b4_1 : Int) (b5 : List (List AV)) : List UInt8 := List.drop t7.toNat (List.take (rn13_18_0 t1 t7 b1_0 b1_1 b1_2 b1_3 b1_4 b1_5 b1_6 b1_7 b1_8 b1_9 b1_10 b3_0 b3_1 b3_2 b3_3 b3_4 b3_5 b3_6 b3_7 b3_8 b3_9 b3_10 b4_0 b4_1 b5).toNat t1)
noncomputable def rn13_18_2 (t1 : List UInt8) (t7 b1_0 b1_1 b1_2 : Int) (b1_3 : List UInt8) (b1_4 b1_5 : Int) (b1_6 : Bool) (b1_7 b1_8 b1_9 b1_10 b3_0 b3_1 b3_2 : Int) (b3_3 : List UInt8) (b3_4 b3_5 : Int) (b3_6 : Bool) (b3_7 b3_8 b3_9 b3_10 b4_0 b4_1 : Int) (b5 : List (List AV)) : Int := IntKind.i64.wrap (t7 + (6 : Int))
noncomputable def rn13_18_3 (t1 : List UInt8) (t7 b1_0 b1_1 b1_2 : Int) (b1_3 : List UInt8) (b1_4 b1_5 : Int) (b1_6 : Bool) (b1_7 b1_8 b1_9 b1_10 b3_0 b3_1 b3_2 : Int) (b3_3 : List UInt8) (b3_4 b3_5 : Int) (b3_6 : Bool) (b3_7 b3_8 b3_9 b3_10 b4_0 b4_1 : Int) (b5 : List (List AV)) : List UInt8 := List.drop (rn13_18_0 t1 t7 b1_0 b1_1 b1_2 b1_3 b1_4 b1_5 b1_6 b1_7 b1_8 b1_9 b1_10 b3_0 b3_1 b3_2 b3_3 b3_4 b3_5 b3_6 b3_7 b3_8 b3_9 b3_10 b4_0 b4_1 b5).toNat (List.take (rn13_18_2 t1 t7 b1_0 b1_1 b1_2 b1_3 b1_4 b1_5 b1_6 b1_7 b1_8 b1_9 b1_10 b3_0 b3_1 b3_2 b3_3 b3_4 b3_5 b3_6 b3_7 b3_8 b3_9 b3_10 b4_0 b4_1 b5).toNat t1)
noncomputable def rn13_18_4 (t1 : List UInt8) (t7 b1_0 b1_1 b1_2 : Int) (b1_3 : List UInt8) (b1_4 b1_5 : Int) (b1_6 : Bool) (b1_7 b1_8 b1_9 b1_10 b3_0 b3_1 b3_2 : Int) (b3_3 : List UInt8) (b3_4 b3_5 : Int) (b3_6 : Bool) (b3_7 b3_8 b3_9 b3_10 b4_0 b4_1 : Int) (b5 : List (List AV)) : List (List AV) := [[AV.int IntKind.u16 (IntKind.u16.wrap (vev42_0 (rn13_18_1 t1 t7 b1_0 b1_1 b1_2 b1_3 b1_4 b1_5 b1_6 b1_7 b1_8 b1_9 b1_10 b3_0 b3_1 b3_2 b3_3 b3_4 b3_5 b3_6 b3_7 b3_8 b3_9 b3_10 b4_0 b4_1 b5))), AV.int IntKind.u32 (IntKind.u32.wrap (vev42_0 (rn13_18_3 t1 t7 b1_0 b1_1 b1_2 b1_3 b1_4 b1_5 b1_6 b1_7 b1_8 b1_9 b1_10 b3_0 b3_1 b3_2 b3_3 b3_4 b3_5 b3_6 b3_7 b3_8 b3_9 b3_10 b4_0 b4_1 b5)))]]
noncomputable def go13_18 (t1 : List UInt8) (t7 b1_0 b1_1 b1_2 : Int) (b1_3 : List UInt8) (b1_4 b1_5 : Int) (b1_6 : Bool) (b1_7 b1_8 b1_9 b1_10 b3_0 b3_1 b3_2 : Int) (b3_3 : List UInt8) (b3_4 b3_5 : Int) (b3_6 : Bool) (b3_7 b3_8 b3_9 b3_10 b4_0 b4_1 : Int) (b5 : List (List AV)) : Bool := bif decide (t7 < (↑t1.length : Int)) then bif bnd t7 (rn13_18_0 t1 t7 b1_0 b1_1 b1_2 b1_3 b1_4 b1_5 b1_6 b1_7 b1_8 b1_9 b1_10 b3_0 b3_1 b3_2 b3_3 b3_4 b3_5 b3_6 b3_7 b3_8 b3_9 b3_10 b4_0 b4_1 b5) (↑t1.length : Int) then bif vev42_1 (rn13_18_1 t1 t7 b1_0 b1_1 b1_2 b1_3 b1_4 b1_5 b1_6 b1_7 b1_8 b1_9 b1_10 b3_0 b3_1 b3_2 b3_3 b3_4 b3_5 b3_6 b3_7 b3_8 b3_9 b3_10 b4_0 b4_1 b5) then bif bnd (rn13_18_0 t1 t7 b1_0 b1_1 b1_2 b1_3 b1_4 b1_5 b1_6 b1_7 b1_8 b1_9 b1_10 b3_0 b3_1 b3_2 b3_3 b3_4 b3_5 b3_6 b3_7 b3_8 b3_9 b3_10 b4_0 b4_1 b5) (rn13_18_2 t1 t7 b1_0 b1_1 b1_2 b1_3 b1_4 b1_5 b1_6 b1_7 b1_8 b1_9 b1_10 b3_0 b3_1 b3_2 b3_3 b3_4 b3_5 b3_6 b3_7 b3_8 b3_9 b3_10 b4_0 b4_1 b5) (↑t1.length : Int) then bif vev42_1 (rn13_18_3 t1 t7 b1_0 b1_1 b1_2 b1_3 b1_4 b1_5 b1_6 b1_7 b1_8 b1_9 b1_10 b3_0 b3_1 b3_2 b3_3 b3_4 b3_5 b3_6 b3_7 b3_8 b3_9 b3_10 b4_0 b4_1 b5) then bif decide ((b5.length + (rn13_18_4 t1 t7 b1_0 b1_1 b1_2 b1_3 b1_4 b1_5 b1_6 b1_7 b1_8 b1_9 b1_10 b3_0 b3_1 b3_2 b3_3 b3_4 b3_5 b3_6 b3_7 b3_8 b3_9 b3_10 b4_0 b4_1 b5).length) * (8 : Nat) ≤ (140737488355328 : Nat)) then decide (b5.length + (rn13_18_4 t1 t7 b1_0 b1_1 b1_2 b1_3 b1_4 b1_5 b1_6 b1_7 b1_8 b1_9 b1_10 b3_0 b3_1 b3_2 b3_3 b3_4 b3_5 b3_6 b3_7 b3_8 b3_9 b3_10 b4_0 b4_1 b5).length ≤ (9223372036854775807 : Nat)) else false else false else false else false else false else false
noncomputable def nx13_18_1 (t1 : List UInt8) (t7 b1_0 b1_1 b1_2 : Int) (b1_3 : List UInt8) (b1_4 b1_5 : Int) (b1_6 : Bool) (b1_7 b1_8 b1_9 b1_10 b3_0 b3_1 b3_2 : Int) (b3_3 : List UInt8) (b3_4 b3_5 : Int) (b3_6 : Bool) (b3_7 b3_8 b3_9 b3_10 b4_0 b4_1 : Int) (b5 : List (List AV)) : Int := rn13_18_2 t1 t7 b1_0 b1_1 b1_2 b1_3 b1_4 b1_5 b1_6 b1_7 b1_8 b1_9 b1_10 b3_0 b3_1 b3_2 b3_3 b3_4 b3_5 b3_6 b3_7 b3_8 b3_9 b3_10 b4_0 b4_1 b5
noncomputable def nx13_18_26 (t1 : List UInt8) (t7 b1_0 b1_1 b1_2 : Int) (b1_3 : List UInt8) (b1_4 b1_5 : Int) (b1_6 : Bool) (b1_7 b1_8 b1_9 b1_10 b3_0 b3_1 b3_2 : Int) (b3_3 : List UInt8) (b3_4 b3_5 : Int) (b3_6 : Bool) (b3_7 b3_8 b3_9 b3_10 b4_0 b4_1 : Int) (b5 : List (List AV)) : List (List AV) := b5 ++ rn13_18_4 t1 t7 b1_0 b1_1 b1_2 b1_3 b1_4 b1_5 b1_6 b1_7 b1_8 b1_9 b1_10 b3_0 b3_1 b3_2 b3_3 b3_4 b3_5 b3_6 b3_7 b3_8 b3_9 b3_10 b4_0 b4_1 b5
noncomputable def xc13_18_0 (t1 : List UInt8) (t7 b1_0 b1_1 b1_2 : Int) (b1_3 : List UInt8) (b1_4 b1_5 : Int) (b1_6 : Bool) (b1_7 b1_8 b1_9 b1_10 b3_0 b3_1 b3_2 : Int) (b3_3 : List UInt8) (b3_4 b3_5 : Int) (b3_6 : Bool) (b3_7 b3_8 b3_9 b3_10 b4_0 b4_1 : Int) (b5 : List (List AV)) : Bool := bif decide (t7 < (↑t1.length : Int)) then false else true
theorem rd13_18 (rest : Lsp) (t1 : List UInt8) (t7 b1_0 b1_1 b1_2 : Int) (b1_3 : List UInt8) (b1_4 b1_5 : Int) (b1_6 : Bool) (b1_7 b1_8 b1_9 b1_10 b3_0 b3_1 b3_2 : Int) (b3_3 : List UInt8) (b3_4 b3_5 : Int) (b3_6 : Bool) (b3_7 b3_8 b3_9 b3_10 b4_0 b4_1 : Int) (b5 : List (List AV)) : roundV (cfg Try.prog tab 100000 (gk k39n 30) rest 13 0 Try.f13.ntmps) (loopAt Try.f13 18) [1, 4, 5, 6, 7] [0, 1, 3, 4, 5] [4, 5, 6] [0, 1, 3, 4, 5] [AV.str t1, AV.hp (nat_lit 3) (nat_lit 0), AV.hp (nat_lit 4) (nat_lit 0), AV.hp (nat_lit 1) (nat_lit 0), AV.int IntKind.i64 t7] [Blk.dead, Blk.var [AV.int IntKind.u8 b1_0, AV.int IntKind.u8 b1_1, AV.int IntKind.i64 b1_2, AV.str b1_3, AV.int IntKind.i64 b1_4, AV.int IntKind.i64 b1_5, AV.bool b1_6, AV.int IntKind.u8 b1_7, AV.int IntKind.u32 b1_8, AV.int IntKind.i64 b1_9, AV.int IntKind.i64 b1_10, AV.rf (nat_lit 5) [Kd.int IntKind.u16, Kd.int IntKind.u32]], Blk.var [AV.int IntKind.u8 b3_0, AV.int IntKind.u8 b3_1, AV.int IntKind.i64 b3_2, AV.str b3_3, AV.int IntKind.i64 b3_4, AV.int IntKind.i64 b3_5, AV.bool b3_6, AV.int IntKind.u8 b3_7, AV.int IntKind.u32 b3_8, AV.int IntKind.i64 b3_9, AV.int IntKind.i64 b3_10, AV.nil], Blk.var [AV.int IntKind.i64 b4_0, AV.int IntKind.i64 b4_1], Blk.row [Kd.int IntKind.u16, Kd.int IntKind.u32] b5] = bif go13_18 t1 t7 b1_0 b1_1 b1_2 b1_3 b1_4 b1_5 b1_6 b1_7 b1_8 b1_9 b1_10 b3_0 b3_1 b3_2 b3_3 b3_4 b3_5 b3_6 b3_7 b3_8 b3_9 b3_10 b4_0 b4_1 b5 then some (Ex.norm, [AV.str t1, AV.hp (nat_lit 3) (nat_lit 0), AV.hp (nat_lit 4) (nat_lit 0), AV.hp (nat_lit 1) (nat_lit 0), AV.int IntKind.i64 (nx13_18_1 t1 t7 b1_0 b1_1 b1_2 b1_3 b1_4 b1_5 b1_6 b1_7 b1_8 b1_9 b1_10 b3_0 b3_1 b3_2 b3_3 b3_4 b3_5 b3_6 b3_7 b3_8 b3_9 b3_10 b4_0 b4_1 b5)], [Blk.dead, Blk.var [AV.int IntKind.u8 b1_0, AV.int IntKind.u8 b1_1, AV.int IntKind.i64 b1_2, AV.str b1_3, AV.int IntKind.i64 b1_4, AV.int IntKind.i64 b1_5, AV.bool b1_6, AV.int IntKind.u8 b1_7, AV.int IntKind.u32 b1_8, AV.int IntKind.i64 b1_9, AV.int IntKind.i64 b1_10, AV.rf (nat_lit 5) [Kd.int IntKind.u16, Kd.int IntKind.u32]], Blk.var [AV.int IntKind.u8 b3_0, AV.int IntKind.u8 b3_1, AV.int IntKind.i64 b3_2, AV.str b3_3, AV.int IntKind.i64 b3_4, AV.int IntKind.i64 b3_5, AV.bool b3_6, AV.int IntKind.u8 b3_7, AV.int IntKind.u32 b3_8, AV.int IntKind.i64 b3_9, AV.int IntKind.i64 b3_10, AV.nil], Blk.var [AV.int IntKind.i64 b4_0, AV.int IntKind.i64 b4_1], Blk.row [Kd.int IntKind.u16, Kd.int IntKind.u32] (nx13_18_26 t1 t7 b1_0 b1_1 b1_2 b1_3 b1_4 b1_5 b1_6 b1_7 b1_8 b1_9 b1_10 b3_0 b3_1 b3_2 b3_3 b3_4 b3_5 b3_6 b3_7 b3_8 b3_9 b3_10 b4_0 b4_1 b5)]) else bif xc13_18_0 t1 t7 b1_0 b1_1 b1_2 b1_3 b1_4 b1_5 b1_6 b1_7 b1_8 b1_9 b1_10 b3_0 b3_1 b3_2 b3_3 b3_4 b3_5 b3_6 b3_7 b3_8 b3_9 b3_10 b4_0 b4_1 b5 then some (Ex.exit (nat_lit 2), [AV.hp (nat_lit 3) (nat_lit 0), AV.hp (nat_lit 4) (nat_lit 0), AV.hp (nat_lit 1) (nat_lit 0)], [Blk.dead, Blk.var [AV.int IntKind.u8 b1_0, AV.int IntKind.u8 b1_1, AV.int IntKind.i64 b1_2, AV.str b1_3, AV.int IntKind.i64 b1_4, AV.int IntKind.i64 b1_5, AV.bool b1_6, AV.int IntKind.u8 b1_7, AV.int IntKind.u32 b1_8, AV.int IntKind.i64 b1_9, AV.int IntKind.i64 b1_10, AV.rf (nat_lit 5) [Kd.int IntKind.u16, Kd.int IntKind.u32]], Blk.var [AV.int IntKind.u8 b3_0, AV.int IntKind.u8 b3_1, AV.int IntKind.i64 b3_2, AV.str b3_3, AV.int IntKind.i64 b3_4, AV.int IntKind.i64 b3_5, AV.bool b3_6, AV.int IntKind.u8 b3_7, AV.int IntKind.u32 b3_8, AV.int IntKind.i64 b3_9, AV.int IntKind.i64 b3_10, AV.nil], Blk.var [AV.int IntKind.i64 b4_0, AV.int IntKind.i64 b4_1], Blk.row [Kd.int IntKind.u16, Kd.int IntKind.u32] b5]) else none := by
  have h : roundV (cfg Try.prog tab 100000 (gk k39n 30) rest 13 0 Try.f13.ntmps) (loopAt Try.f13 18) [1, 4, 5, 6, 7] [0, 1, 3, 4, 5] [4, 5, 6] [0, 1, 3, 4, 5] [AV.str t1, AV.hp (nat_lit 3) (nat_lit 0), AV.hp (nat_lit 4) (nat_lit 0), AV.hp (nat_lit 1) (nat_lit 0), AV.int IntKind.i64 t7] [Blk.dead, Blk.var [AV.int IntKind.u8 b1_0, AV.int IntKind.u8 b1_1, AV.int IntKind.i64 b1_2, AV.str b1_3, AV.int IntKind.i64 b1_4, AV.int IntKind.i64 b1_5, AV.bool b1_6, AV.int IntKind.u8 b1_7, AV.int IntKind.u32 b1_8, AV.int IntKind.i64 b1_9, AV.int IntKind.i64 b1_10, AV.rf (nat_lit 5) [Kd.int IntKind.u16, Kd.int IntKind.u32]], Blk.var [AV.int IntKind.u8 b3_0, AV.int IntKind.u8 b3_1, AV.int IntKind.i64 b3_2, AV.str b3_3, AV.int IntKind.i64 b3_4, AV.int IntKind.i64 b3_5, AV.bool b3_6, AV.int IntKind.u8 b3_7, AV.int IntKind.u32 b3_8, AV.int IntKind.i64 b3_9, AV.int IntKind.i64 b3_10, AV.nil], Blk.var [AV.int IntKind.i64 b4_0, AV.int IntKind.i64 b4_1], Blk.row [Kd.int IntKind.u16, Kd.int IntKind.u32] b5] = bif decide (t7 < (↑t1.length : Int)) then bif bnd t7 (rn13_18_0 t1 t7 b1_0 b1_1 b1_2 b1_3 b1_4 b1_5 b1_6 b1_7 b1_8 b1_9 b1_10 b3_0 b3_1 b3_2 b3_3 b3_4 b3_5 b3_6 b3_7 b3_8 b3_9 b3_10 b4_0 b4_1 b5) (↑t1.length : Int) then bif vev42_1 (rn13_18_1 t1 t7 b1_0 b1_1 b1_2 b1_3 b1_4 b1_5 b1_6 b1_7 b1_8 b1_9 b1_10 b3_0 b3_1 b3_2 b3_3 b3_4 b3_5 b3_6 b3_7 b3_8 b3_9 b3_10 b4_0 b4_1 b5) then bif bnd (rn13_18_0 t1 t7 b1_0 b1_1 b1_2 b1_3 b1_4 b1_5 b1_6 b1_7 b1_8 b1_9 b1_10 b3_0 b3_1 b3_2 b3_3 b3_4 b3_5 b3_6 b3_7 b3_8 b3_9 b3_10 b4_0 b4_1 b5) (rn13_18_2 t1 t7 b1_0 b1_1 b1_2 b1_3 b1_4 b1_5 b1_6 b1_7 b1_8 b1_9 b1_10 b3_0 b3_1 b3_2 b3_3 b3_4 b3_5 b3_6 b3_7 b3_8 b3_9 b3_10 b4_0 b4_1 b5) (↑t1.length : Int) then bif vev42_1 (rn13_18_3 t1 t7 b1_0 b1_1 b1_2 b1_3 b1_4 b1_5 b1_6 b1_7 b1_8 b1_9 b1_10 b3_0 b3_1 b3_2 b3_3 b3_4 b3_5 b3_6 b3_7 b3_8 b3_9 b3_10 b4_0 b4_1 b5) then bif bif decide ((b5.length + (rn13_18_4 t1 t7 b1_0 b1_1 b1_2 b1_3 b1_4 b1_5 b1_6 b1_7 b1_8 b1_9 b1_10 b3_0 b3_1 b3_2 b3_3 b3_4 b3_5 b3_6 b3_7 b3_8 b3_9 b3_10 b4_0 b4_1 b5).length) * (8 : Nat) ≤ (140737488355328 : Nat)) then decide (b5.length + (rn13_18_4 t1 t7 b1_0 b1_1 b1_2 b1_3 b1_4 b1_5 b1_6 b1_7 b1_8 b1_9 b1_10 b3_0 b3_1 b3_2 b3_3 b3_4 b3_5 b3_6 b3_7 b3_8 b3_9 b3_10 b4_0 b4_1 b5).length ≤ (9223372036854775807 : Nat)) else false then some (Ex.norm, [AV.str t1, AV.hp (nat_lit 3) (nat_lit 0), AV.hp (nat_lit 4) (nat_lit 0), AV.hp (nat_lit 1) (nat_lit 0), AV.int IntKind.i64 (rn13_18_2 t1 t7 b1_0 b1_1 b1_2 b1_3 b1_4 b1_5 b1_6 b1_7 b1_8 b1_9 b1_10 b3_0 b3_1 b3_2 b3_3 b3_4 b3_5 b3_6 b3_7 b3_8 b3_9 b3_10 b4_0 b4_1 b5)], [Blk.dead, Blk.var [AV.int IntKind.u8 b1_0, AV.int IntKind.u8 b1_1, AV.int IntKind.i64 b1_2, AV.str b1_3, AV.int IntKind.i64 b1_4, AV.int IntKind.i64 b1_5, AV.bool b1_6, AV.int IntKind.u8 b1_7, AV.int IntKind.u32 b1_8, AV.int IntKind.i64 b1_9, AV.int IntKind.i64 b1_10, AV.rf (nat_lit 5) [Kd.int IntKind.u16, Kd.int IntKind.u32]], Blk.var [AV.int IntKind.u8 b3_0, AV.int IntKind.u8 b3_1, AV.int IntKind.i64 b3_2, AV.str b3_3, AV.int IntKind.i64 b3_4, AV.int IntKind.i64 b3_5, AV.bool b3_6, AV.int IntKind.u8 b3_7, AV.int IntKind.u32 b3_8, AV.int IntKind.i64 b3_9, AV.int IntKind.i64 b3_10, AV.nil], Blk.var [AV.int IntKind.i64 b4_0, AV.int IntKind.i64 b4_1], Blk.row [Kd.int IntKind.u16, Kd.int IntKind.u32] (b5 ++ rn13_18_4 t1 t7 b1_0 b1_1 b1_2 b1_3 b1_4 b1_5 b1_6 b1_7 b1_8 b1_9 b1_10 b3_0 b3_1 b3_2 b3_3 b3_4 b3_5 b3_6 b3_7 b3_8 b3_9 b3_10 b4_0 b4_1 b5)]) else none else none else none else none else none else some (Ex.exit (nat_lit 2), [AV.hp (nat_lit 3) (nat_lit 0), AV.hp (nat_lit 4) (nat_lit 0), AV.hp (nat_lit 1) (nat_lit 0)], [Blk.dead, Blk.var [AV.int IntKind.u8 b1_0, AV.int IntKind.u8 b1_1, AV.int IntKind.i64 b1_2, AV.str b1_3, AV.int IntKind.i64 b1_4, AV.int IntKind.i64 b1_5, AV.bool b1_6, AV.int IntKind.u8 b1_7, AV.int IntKind.u32 b1_8, AV.int IntKind.i64 b1_9, AV.int IntKind.i64 b1_10, AV.rf (nat_lit 5) [Kd.int IntKind.u16, Kd.int IntKind.u32]], Blk.var [AV.int IntKind.u8 b3_0, AV.int IntKind.u8 b3_1, AV.int IntKind.i64 b3_2, AV.str b3_3, AV.int IntKind.i64 b3_4, AV.int IntKind.i64 b3_5, AV.bool b3_6, AV.int IntKind.u8 b3_7, AV.int IntKind.u32 b3_8, AV.int IntKind.i64 b3_9, AV.int IntKind.i64 b3_10, AV.nil], Blk.var [AV.int IntKind.i64 b4_0, AV.int IntKind.i64 b4_1], Blk.row [Kd.int IntKind.u16, Kd.int IntKind.u32] b5]) := by kernel_rfl
  rw [h]
  clear h
  unfold go13_18 nx13_18_1 nx13_18_26 xc13_18_0
  generalize (decide ((b5.length + (rn13_18_4 t1 t7 b1_0 b1_1 b1_2 b1_3 b1_4 b1_5 b1_6 b1_7 b1_8 b1_9 b1_10 b3_0 b3_1 b3_2 b3_3 b3_4 b3_5 b3_6 b3_7 b3_8 b3_9 b3_10 b4_0 b4_1 b5).length) * (8 : Nat) ≤ (140737488355328 : Nat))) = c0
  generalize (decide (b5.length + (rn13_18_4 t1 t7 b1_0 b1_1 b1_2 b1_3 b1_4 b1_5 b1_6 b1_7 b1_8 b1_9 b1_10 b3_0 b3_1 b3_2 b3_3 b3_4 b3_5 b3_6 b3_7 b3_8 b3_9 b3_10 b4_0 b4_1 b5).length ≤ (9223372036854775807 : Nat))) = c1
  generalize (bnd (rn13_18_0 t1 t7 b1_0 b1_1 b1_2 b1_3 b1_4 b1_5 b1_6 b1_7 b1_8 b1_9 b1_10 b3_0 b3_1 b3_2 b3_3 b3_4 b3_5 b3_6 b3_7 b3_8 b3_9 b3_10 b4_0 b4_1 b5) (rn13_18_2 t1 t7 b1_0 b1_1 b1_2 b1_3 b1_4 b1_5 b1_6 b1_7 b1_8 b1_9 b1_10 b3_0 b3_1 b3_2 b3_3 b3_4 b3_5 b3_6 b3_7 b3_8 b3_9 b3_10 b4_0 b4_1 b5) (↑t1.length : Int)) = c2
  generalize (bnd t7 (rn13_18_0 t1 t7 b1_0 b1_1 b1_2 b1_3 b1_4 b1_5 b1_6 b1_7 b1_8 b1_9 b1_10 b3_0 b3_1 b3_2 b3_3 b3_4 b3_5 b3_6 b3_7 b3_8 b3_9 b3_10 b4_0 b4_1 b5) (↑t1.length : Int)) = c3
  generalize (vev42_1 (rn13_18_1 t1 t7 b1_0 b1_1 b1_2 b1_3 b1_4 b1_5 b1_6 b1_7 b1_8 b1_9 b1_10 b3_0 b3_1 b3_2 b3_3 b3_4 b3_5 b3_6 b3_7 b3_8 b3_9 b3_10 b4_0 b4_1 b5)) = c4
  generalize (vev42_1 (rn13_18_3 t1 t7 b1_0 b1_1 b1_2 b1_3 b1_4 b1_5 b1_6 b1_7 b1_8 b1_9 b1_10 b3_0 b3_1 b3_2 b3_3 b3_4 b3_5 b3_6 b3_7 b3_8 b3_9 b3_10 b4_0 b4_1 b5)) = c5
  generalize (decide (t7 < (↑t1.length : Int))) = c6
  cases c6; rfl; cases c3; rfl; cases c4; rfl; cases c2; rfl; cases c5; rfl; cases c0; rfl; cases c1; rfl; rfl
abbrev pl13_18 : Type := (List UInt8) × Int × Int × Int × (List UInt8) × Int × Int × Bool × Int × Int × Int × Int × Int × Int × Int × (List UInt8) × Int × Int × Bool × Int × Int × Int × Int × Int × Int
abbrev sl13_18 : Type := Int × (List (List AV))
noncomputable def vt13_18 (a : pl13_18 × sl13_18) : List AV := [AV.str a.1.1, AV.hp (nat_lit 3) (nat_lit 0), AV.hp (nat_lit 4) (nat_lit 0), AV.hp (nat_lit 1) (nat_lit 0), AV.int IntKind.i64 a.2.1]
noncomputable def vc13_18 (a : pl13_18 × sl13_18) : List Blk := [Blk.dead, Blk.var [AV.int IntKind.u8 a.1.2.1, AV.int IntKind.u8 a.1.2.2.1, AV.int IntKind.i64 a.1.2.2.2.1, AV.str a.1.2.2.2.2.1, AV.int IntKind.i64 a.1.2.2.2.2.2.1, AV.int IntKind.i64 a.1.2.2.2.2.2.2.1, AV.bool a.1.2.2.2.2.2.2.2.1, AV.int IntKind.u8 a.1.2.2.2.2.2.2.2.2.1, AV.int IntKind.u32 a.1.2.2.2.2.2.2.2.2.2.1, AV.int IntKind.i64 a.1.2.2.2.2.2.2.2.2.2.2.1, AV.int IntKind.i64 a.1.2.2.2.2.2.2.2.2.2.2.2.1, AV.rf (nat_lit 5) [Kd.int IntKind.u16, Kd.int IntKind.u32]], Blk.var [AV.int IntKind.u8 a.1.2.2.2.2.2.2.2.2.2.2.2.2.1, AV.int IntKind.u8 a.1.2.2.2.2.2.2.2.2.2.2.2.2.2.1, AV.int IntKind.i64 a.1.2.2.2.2.2.2.2.2.2.2.2.2.2.2.1, AV.str a.1.2.2.2.2.2.2.2.2.2.2.2.2.2.2.2.1, AV.int IntKind.i64 a.1.2.2.2.2.2.2.2.2.2.2.2.2.2.2.2.2.1, AV.int IntKind.i64 a.1.2.2.2.2.2.2.2.2.2.2.2.2.2.2.2.2.2.1, AV.bool a.1.2.2.2.2.2.2.2.2.2.2.2.2.2.2.2.2.2.2.1, AV.int IntKind.u8 a.1.2.2.2.2.2.2.2.2.2.2.2.2.2.2.2.2.2.2.2.1, AV.int IntKind.u32 a.1.2.2.2.2.2.2.2.2.2.2.2.2.2.2.2.2.2.2.2.2.1, AV.int IntKind.i64 a.1.2.2.2.2.2.2.2.2.2.2.2.2.2.2.2.2.2.2.2.2.2.1, AV.int IntKind.i64 a.1.2.2.2.2.2.2.2.2.2.2.2.2.2.2.2.2.2.2.2.2.2.2.1, AV.nil], Blk.var [AV.int IntKind.i64 a.1.2.2.2.2.2.2.2.2.2.2.2.2.2.2.2.2.2.2.2.2.2.2.2.1, AV.int IntKind.i64 a.1.2.2.2.2.2.2.2.2.2.2.2.2.2.2.2.2.2.2.2.2.2.2.2.2], Blk.row [Kd.int IntKind.u16, Kd.int IntKind.u32] a.2.2]
noncomputable def de13_18 (vt : List AV) (vc : List Blk) : Option (pl13_18 × sl13_18) :=
  match vt with
  | [qa0, qa1, qa2, qa3, qa4] => (match vc with
  | [qb0, qb1, qb2, qb3, qb4] => (match qa0 with
  | AV.str t1 => (match qa1 with
  | AV.hp (3) (0) => (match qa2 with
  | AV.hp (4) (0) => (match qa3 with
  | AV.hp (1) (0) => (match qa4 with
  | AV.int IntKind.i64 t7 => (match qb0 with
  | Blk.dead => (match qb1 with
  | Blk.var [AV.int IntKind.u8 b1_0, AV.int IntKind.u8 b1_1, AV.int IntKind.i64 b1_2, AV.str b1_3, AV.int IntKind.i64 b1_4, AV.int IntKind.i64 b1_5, AV.bool b1_6, AV.int IntKind.u8 b1_7, AV.int IntKind.u32 b1_8, AV.int IntKind.i64 b1_9, AV.int IntKind.i64 b1_10, AV.rf (5) [Kd.int IntKind.u16, Kd.int IntKind.u32]] => (match qb2 with
  | Blk.var [AV.int IntKind.u8 b3_0, AV.int IntKind.u8 b3_1, AV.int IntKind.i64 b3_2, AV.str b3_3, AV.int IntKind.i64 b3_4, AV.int IntKind.i64 b3_5, AV.bool b3_6, AV.int IntKind.u8 b3_7, AV.int IntKind.u32 b3_8, AV.int IntKind.i64 b3_9, AV.int IntKind.i64 b3_10, AV.nil] => (match qb3 with
  | Blk.var [AV.int IntKind.i64 b4_0, AV.int IntKind.i64 b4_1] => (match qb4 with
  | Blk.row [Kd.int IntKind.u16, Kd.int IntKind.u32] b5 => (some ((t1, b1_0, b1_1, b1_2, b1_3, b1_4, b1_5, b1_6, b1_7, b1_8, b1_9, b1_10, b3_0, b3_1, b3_2, b3_3, b3_4, b3_5, b3_6, b3_7, b3_8, b3_9, b3_10, b4_0, b4_1), (t7, b5)))
  | _ => none)
  | _ => none)
  | _ => none)
  | _ => none)
  | _ => none)
  | _ => none)
  | _ => none)
  | _ => none)
  | _ => none)
  | _ => none)
  | _ => none)
  | _ => none
theorem de13_18_ok (vt : List AV) (vc : List Blk) (a : pl13_18 × sl13_18) (h : de13_18 vt vc = some a) : vt = vt13_18 a ∧ vc = vc13_18 a := by
  unfold de13_18 at h
  split at h
  rotate_left
  · cases h
  split at h
  rotate_left
  · cases h
  split at h
  rotate_left
  · cases h
  split at h
  rotate_left
  · cases h
  split at h
  rotate_left
  · cases h
  split at h
  rotate_left
  · cases h
  split at h
  rotate_left
  · cases h
  split at h
  rotate_left
  · cases h
  split at h
  rotate_left
  · cases h
  split at h
  rotate_left
  · cases h
  split at h
  rotate_left
  · cases h
  split at h
  rotate_left
  · cases h
  injection h with h
  subst h
  exact ⟨rfl, rfl⟩
noncomputable def g13_18 (p : pl13_18) (s : sl13_18) : Bool := go13_18 p.1 s.1 p.2.1 p.2.2.1 p.2.2.2.1 p.2.2.2.2.1 p.2.2.2.2.2.1 p.2.2.2.2.2.2.1 p.2.2.2.2.2.2.2.1 p.2.2.2.2.2.2.2.2.1 p.2.2.2.2.2.2.2.2.2.1 p.2.2.2.2.2.2.2.2.2.2.1 p.2.2.2.2.2.2.2.2.2.2.2.1 p.2.2.2.2.2.2.2.2.2.2.2.2.1 p.2.2.2.2.2.2.2.2.2.2.2.2.2.1 p.2.2.2.2.2.2.2.2.2.2.2.2.2.2.1 p.2.2.2.2.2.2.2.2.2.2.2.2.2.2.2.1 p.2.2.2.2.2.2.2.2.2.2.2.2.2.2.2.2.1 p.2.2.2.2.2.2.2.2.2.2.2.2.2.2.2.2.2.1 p.2.2.2.2.2.2.2.2.2.2.2.2.2.2.2.2.2.2.1 p.2.2.2.2.2.2.2.2.2.2.2.2.2.2.2.2.2.2.2.1 p.2.2.2.2.2.2.2.2.2.2.2.2.2.2.2.2.2.2.2.2.1 p.2.2.2.2.2.2.2.2.2.2.2.2.2.2.2.2.2.2.2.2.2.1 p.2.2.2.2.2.2.2.2.2.2.2.2.2.2.2.2.2.2.2.2.2.2.1 p.2.2.2.2.2.2.2.2.2.2.2.2.2.2.2.2.2.2.2.2.2.2.2.1 p.2.2.2.2.2.2.2.2.2.2.2.2.2.2.2.2.2.2.2.2.2.2.2.2 s.2
noncomputable def n13_18 (p : pl13_18) (s : sl13_18) : sl13_18 := (nx13_18_1 p.1 s.1 p.2.1 p.2.2.1 p.2.2.2.1 p.2.2.2.2.1 p.2.2.2.2.2.1 p.2.2.2.2.2.2.1 p.2.2.2.2.2.2.2.1 p.2.2.2.2.2.2.2.2.1 p.2.2.2.2.2.2.2.2.2.1 p.2.2.2.2.2.2.2.2.2.2.1 p.2.2.2.2.2.2.2.2.2.2.2.1 p.2.2.2.2.2.2.2.2.2.2.2.2.1 p.2.2.2.2.2.2.2.2.2.2.2.2.2.1 p.2.2.2.2.2.2.2.2.2.2.2.2.2.2.1 p.2.2.2.2.2.2.2.2.2.2.2.2.2.2.2.1 p.2.2.2.2.2.2.2.2.2.2.2.2.2.2.2.2.1 p.2.2.2.2.2.2.2.2.2.2.2.2.2.2.2.2.2.1 p.2.2.2.2.2.2.2.2.2.2.2.2.2.2.2.2.2.2.1 p.2.2.2.2.2.2.2.2.2.2.2.2.2.2.2.2.2.2.2.1 p.2.2.2.2.2.2.2.2.2.2.2.2.2.2.2.2.2.2.2.2.1 p.2.2.2.2.2.2.2.2.2.2.2.2.2.2.2.2.2.2.2.2.2.1 p.2.2.2.2.2.2.2.2.2.2.2.2.2.2.2.2.2.2.2.2.2.2.1 p.2.2.2.2.2.2.2.2.2.2.2.2.2.2.2.2.2.2.2.2.2.2.2.1 p.2.2.2.2.2.2.2.2.2.2.2.2.2.2.2.2.2.2.2.2.2.2.2.2 s.2, nx13_18_26 p.1 s.1 p.2.1 p.2.2.1 p.2.2.2.1 p.2.2.2.2.1 p.2.2.2.2.2.1 p.2.2.2.2.2.2.1 p.2.2.2.2.2.2.2.1 p.2.2.2.2.2.2.2.2.1 p.2.2.2.2.2.2.2.2.2.1 p.2.2.2.2.2.2.2.2.2.2.1 p.2.2.2.2.2.2.2.2.2.2.2.1 p.2.2.2.2.2.2.2.2.2.2.2.2.1 p.2.2.2.2.2.2.2.2.2.2.2.2.2.1 p.2.2.2.2.2.2.2.2.2.2.2.2.2.2.1 p.2.2.2.2.2.2.2.2.2.2.2.2.2.2.2.1 p.2.2.2.2.2.2.2.2.2.2.2.2.2.2.2.2.1 p.2.2.2.2.2.2.2.2.2.2.2.2.2.2.2.2.2.1 p.2.2.2.2.2.2.2.2.2.2.2.2.2.2.2.2.2.2.1 p.2.2.2.2.2.2.2.2.2.2.2.2.2.2.2.2.2.2.2.1 p.2.2.2.2.2.2.2.2.2.2.2.2.2.2.2.2.2.2.2.2.1 p.2.2.2.2.2.2.2.2.2.2.2.2.2.2.2.2.2.2.2.2.2.1 p.2.2.2.2.2.2.2.2.2.2.2.2.2.2.2.2.2.2.2.2.2.2.1 p.2.2.2.2.2.2.2.2.2.2.2.2.2.2.2.2.2.2.2.2.2.2.2.1 p.2.2.2.2.2.2.2.2.2.2.2.2.2.2.2.2.2.2.2.2.2.2.2.2 s.2)
noncomputable def y13_18 (p : pl13_18) (s : sl13_18) : List (Bool × Out) := []
noncomputable def z13_18 (p : pl13_18) (s : sl13_18) : Bool := xc13_18_0 p.1 s.1 p.2.1 p.2.2.1 p.2.2.2.1 p.2.2.2.2.1 p.2.2.2.2.2.1 p.2.2.2.2.2.2.1 p.2.2.2.2.2.2.2.1 p.2.2.2.2.2.2.2.2.1 p.2.2.2.2.2.2.2.2.2.1 p.2.2.2.2.2.2.2.2.2.2.1 p.2.2.2.2.2.2.2.2.2.2.2.1 p.2.2.2.2.2.2.2.2.2.2.2.2.1 p.2.2.2.2.2.2.2.2.2.2.2.2.2.1 p.2.2.2.2.2.2.2.2.2.2.2.2.2.2.1 p.2.2.2.2.2.2.2.2.2.2.2.2.2.2.2.1 p.2.2.2.2.2.2.2.2.2.2.2.2.2.2.2.2.1 p.2.2.2.2.2.2.2.2.2.2.2.2.2.2.2.2.2.1 p.2.2.2.2.2.2.2.2.2.2.2.2.2.2.2.2.2.2.1 p.2.2.2.2.2.2.2.2.2.2.2.2.2.2.2.2.2.2.2.1 p.2.2.2.2.2.2.2.2.2.2.2.2.2.2.2.2.2.2.2.2.1 p.2.2.2.2.2.2.2.2.2.2.2.2.2.2.2.2.2.2.2.2.2.1 p.2.2.2.2.2.2.2.2.2.2.2.2.2.2.2.2.2.2.2.2.2.2.1 p.2.2.2.2.2.2.2.2.2.2.2.2.2.2.2.2.2.2.2.2.2.2.2.1 p.2.2.2.2.2.2.2.2.2.2.2.2.2.2.2.2.2.2.2.2.2.2.2.2 s.2
noncomputable def d13_18 (p : pl13_18) (s : sl13_18) : Out := (Ex.exit (nat_lit 2), [AV.hp (nat_lit 3) (nat_lit 0), AV.hp (nat_lit 4) (nat_lit 0), AV.hp (nat_lit 1) (nat_lit 0)], [Blk.dead, Blk.var [AV.int IntKind.u8 p.2.1, AV.int IntKind.u8 p.2.2.1, AV.int IntKind.i64 p.2.2.2.1, AV.str p.2.2.2.2.1, AV.int IntKind.i64 p.2.2.2.2.2.1, AV.int IntKind.i64 p.2.2.2.2.2.2.1, AV.bool p.2.2.2.2.2.2.2.1, AV.int IntKind.u8 p.2.2.2.2.2.2.2.2.1, AV.int IntKind.u32 p.2.2.2.2.2.2.2.2.2.1, AV.int IntKind.i64 p.2.2.2.2.2.2.2.2.2.2.1, AV.int IntKind.i64 p.2.2.2.2.2.2.2.2.2.2.2.1, AV.rf (nat_lit 5) [Kd.int IntKind.u16, Kd.int IntKind.u32]], Blk.var [AV.int IntKind.u8 p.2.2.2.2.2.2.2.2.2.2.2.2.1, AV.int IntKind.u8 p.2.2.2.2.2.2.2.2.2.2.2.2.2.1, AV.int IntKind.i64 p.2.2.2.2.2.2.2.2.2.2.2.2.2.2.1, AV.str p.2.2.2.2.2.2.2.2.2.2.2.2.2.2.2.1, AV.int IntKind.i64 p.2.2.2.2.2.2.2.2.2.2.2.2.2.2.2.2.1, AV.int IntKind.i64 p.2.2.2.2.2.2.2.2.2.2.2.2.2.2.2.2.2.1, AV.bool p.2.2.2.2.2.2.2.2.2.2.2.2.2.2.2.2.2.2.1, AV.int IntKind.u8 p.2.2.2.2.2.2.2.2.2.2.2.2.2.2.2.2.2.2.2.1, AV.int IntKind.u32 p.2.2.2.2.2.2.2.2.2.2.2.2.2.2.2.2.2.2.2.2.1, AV.int IntKind.i64 p.2.2.2.2.2.2.2.2.2.2.2.2.2.2.2.2.2.2.2.2.2.1, AV.int IntKind.i64 p.2.2.2.2.2.2.2.2.2.2.2.2.2.2.2.2.2.2.2.2.2.2.1, AV.nil], Blk.var [AV.int IntKind.i64 p.2.2.2.2.2.2.2.2.2.2.2.2.2.2.2.2.2.2.2.2.2.2.2.1, AV.int IntKind.i64 p.2.2.2.2.2.2.2.2.2.2.2.2.2.2.2.2.2.2.2.2.2.2.2.2], Blk.row [Kd.int IntKind.u16, Kd.int IntKind.u32] s.2])
noncomputable def ls13_18 : St → Option (Bool × List (Bool × Ex × St) × Ex × St) := lspOf [1, 4, 5, 6, 7] [0, 1, 3, 4, 5] [4, 5, 6] [0, 1, 3, 4, 5] Try.f13.ntmps (0 + tab.nid 13) de13_18 (spI g13_18 n13_18 y13_18 z13_18 d13_18)
theorem lo13_18 (rest : Lsp) : LoopOK1 (cfg Try.prog tab 100000 (gk k39n 30) (selL 18 ls13_18 rest) 13 0 Try.f13.ntmps) (loopAt Try.f13 18) := LoopOK1.iter (i := 18) (by kernel_rfl) [1, 4, 5, 6, 7] [0, 1, 3, 4, 5] [4, 5, 6] [0, 1, 3, 4, 5] vt13_18 vc13_18 de13_18 g13_18 n13_18 y13_18 z13_18 d13_18 (fun _ => rfl) de13_18_ok (fun p s => rd13_18 (selL 18 ls13_18 rest) (p.1) (s.1) (p.2.1) (p.2.2.1) (p.2.2.2.1) (p.2.2.2.2.1) (p.2.2.2.2.2.1) (p.2.2.2.2.2.2.1) (p.2.2.2.2.2.2.2.1) (p.2.2.2.2.2.2.2.2.1) (p.2.2.2.2.2.2.2.2.2.1) (p.2.2.2.2.2.2.2.2.2.2.1) (p.2.2.2.2.2.2.2.2.2.2.2.1) (p.2.2.2.2.2.2.2.2.2.2.2.2.1) (p.2.2.2.2.2.2.2.2.2.2.2.2.2.1) (p.2.2.2.2.2.2.2.2.2.2.2.2.2.2.1) (p.2.2.2.2.2.2.2.2.2.2.2.2.2.2.2.1) (p.2.2.2.2.2.2.2.2.2.2.2.2.2.2.2.2.1) (p.2.2.2.2.2.2.2.2.2.2.2.2.2.2.2.2.2.1) (p.2.2.2.2.2.2.2.2.2.2.2.2.2.2.2.2.2.2.1) (p.2.2.2.2.2.2.2.2.2.2.2.2.2.2.2.2.2.2.2.1) (p.2.2.2.2.2.2.2.2.2.2.2.2.2.2.2.2.2.2.2.2.1) (p.2.2.2.2.2.2.2.2.2.2.2.2.2.2.2.2.2.2.2.2.2.1) (p.2.2.2.2.2.2.2.2.2.2.2.2.2.2.2.2.2.2.2.2.2.2.1) (p.2.2.2.2.2.2.2.2.2.2.2.2.2.2.2.2.2.2.2.2.2.2.2.1) (p.2.2.2.2.2.2.2.2.2.2.2.2.2.2.2.2.2.2.2.2.2.2.2.2) (s.2)) (fun _ _ => rfl)
noncomputable def lsp13 : Lsp := (selL 18 ls13_18 noLsp)
theorem loops13 : ∀ c, Try.f13.body = some c → LoopsOK (cfg Try.prog tab 100000 (gk k39n 30) lsp13 13 0 Try.f13.ntmps) c := loops_of [18] (by kernel_rfl) (by kernel_rfl) (fun i hi => by
  simp only [List.mem_cons, List.not_mem_nil, or_false] at hi
  subst hi
  · exact lo13_18 noLsp)
noncomputable def rev13_0 (l t g n : Int) (s : List UInt8) : sl13_18 := finL (g13_18 (s, t, g, n, (ByteArray.mk #[]).data.toList, (0 : Int), (0 : Int), false, (0 : Int), (0 : Int), (0 : Int), (0 : Int), (0 : Int), (0 : Int), (0 : Int), (ByteArray.mk #[]).data.toList, (0 : Int), (0 : Int), false, (0 : Int), (0 : Int), (0 : Int), (0 : Int), (0 : Int), (0 : Int))) (n13_18 (s, t, g, n, (ByteArray.mk #[]).data.toList, (0 : Int), (0 : Int), false, (0 : Int), (0 : Int), (0 : Int), (0 : Int), (0 : Int), (0 : Int), (0 : Int), (ByteArray.mk #[]).data.toList, (0 : Int), (0 : Int), false, (0 : Int), (0 : Int), (0 : Int), (0 : Int), (0 : Int), (0 : Int))) ((0 : Int), [])
noncomputable def rev13_1 (l t g n : Int) (s : List UInt8) : List UInt8 := List.drop (Int.toNat (4 : Int)) (List.take (Int.toNat (8 : Int)) s)
noncomputable def vev13_0 (l t g n : Int) (s : List UInt8) : Int := bif vev38_0 t n then (0 : Int) else bif decide (t ≤ (1 : Int)) then vev39n_0 t g n (ByteArray.mk #[]).data.toList (0 : Int) (0 : Int) false (0 : Int) (0 : Int) (0 : Int) (0 : Int) s else bif bif t == (2 : Int) then (↑s.length : Int) != (5 : Int) else false then (0 : Int) else bif vev40n_0 t g n (ByteArray.mk #[]).data.toList (0 : Int) (0 : Int) false (0 : Int) (0 : Int) (0 : Int) (0 : Int) (↑s.length : Int) then (0 : Int) else bif t == (2 : Int) then t else bif t == (3 : Int) then t else bif t == (4 : Int) then t else bif t == (7 : Int) then t else bif t == (8 : Int) then bif vev43_0 s == (0 : Int) then (0 : Int) else t else t
noncomputable def vev13_1 (l t g n : Int) (s : List UInt8) : Int := bif vev38_0 t n then (0 : Int) else bif decide (t ≤ (1 : Int)) then vev39n_1 t g n (ByteArray.mk #[]).data.toList (0 : Int) (0 : Int) false (0 : Int) (0 : Int) (0 : Int) (0 : Int) s else bif bif t == (2 : Int) then (↑s.length : Int) != (5 : Int) else false then (0 : Int) else bif vev40n_0 t g n (ByteArray.mk #[]).data.toList (0 : Int) (0 : Int) false (0 : Int) (0 : Int) (0 : Int) (0 : Int) (↑s.length : Int) then (0 : Int) else bif t == (2 : Int) then g else bif t == (3 : Int) then g else bif t == (4 : Int) then g else bif t == (7 : Int) then g else bif t == (8 : Int) then bif vev43_0 s == (0 : Int) then (0 : Int) else g else g
noncomputable def vev13_2 (l t g n : Int) (s : List UInt8) : Int := bif vev38_0 t n then (0 : Int) else bif decide (t ≤ (1 : Int)) then vev39n_2 t g n (ByteArray.mk #[]).data.toList (0 : Int) (0 : Int) false (0 : Int) (0 : Int) (0 : Int) (0 : Int) s else bif bif t == (2 : Int) then (↑s.length : Int) != (5 : Int) else false then (0 : Int) else bif vev40n_0 t g n (ByteArray.mk #[]).data.toList (0 : Int) (0 : Int) false (0 : Int) (0 : Int) (0 : Int) (0 : Int) (↑s.length : Int) then (0 : Int) else bif t == (2 : Int) then n else bif t == (3 : Int) then n else bif t == (4 : Int) then n else bif t == (7 : Int) then n else bif t == (8 : Int) then bif vev43_0 s == (0 : Int) then (0 : Int) else n else n
noncomputable def vev13_3 (l t g n : Int) (s : List UInt8) : List UInt8 := bif vev38_0 t n then (ByteArray.mk #[]).data.toList else bif decide (t ≤ (1 : Int)) then vev39n_3 t g n (ByteArray.mk #[]).data.toList (0 : Int) (0 : Int) false (0 : Int) (0 : Int) (0 : Int) (0 : Int) s else bif bif t == (2 : Int) then (↑s.length : Int) != (5 : Int) else false then (ByteArray.mk #[]).data.toList else bif vev40n_0 t g n (ByteArray.mk #[]).data.toList (0 : Int) (0 : Int) false (0 : Int) (0 : Int) (0 : Int) (0 : Int) (↑s.length : Int) then (ByteArray.mk #[]).data.toList else bif t == (2 : Int) then (ByteArray.mk #[]).data.toList else bif t == (3 : Int) then (ByteArray.mk #[]).data.toList else bif t == (4 : Int) then (ByteArray.mk #[]).data.toList else bif t == (7 : Int) then List.drop (Int.toNat (8 : Int)) s else bif t == (8 : Int) then (ByteArray.mk #[]).data.toList else s
noncomputable def vev13_4 (l t g n : Int) (s : List UInt8) : Int := bif vev38_0 t n then (0 : Int) else bif decide (t ≤ (1 : Int)) then vev39n_4 t g n (ByteArray.mk #[]).data.toList (0 : Int) (0 : Int) false (0 : Int) (0 : Int) (0 : Int) (0 : Int) s else (0 : Int)
noncomputable def vev13_5 (l t g n : Int) (s : List UInt8) : Int := bif vev38_0 t n then (0 : Int) else bif decide (t ≤ (1 : Int)) then vev39n_5 t g n (ByteArray.mk #[]).data.toList (0 : Int) (0 : Int) false (0 : Int) (0 : Int) (0 : Int) (0 : Int) s else bif bif t == (2 : Int) then (↑s.length : Int) != (5 : Int) else false then (0 : Int) else bif vev40n_0 t g n (ByteArray.mk #[]).data.toList (0 : Int) (0 : Int) false (0 : Int) (0 : Int) (0 : Int) (0 : Int) (↑s.length : Int) then (0 : Int) else bif t == (2 : Int) then vev43_0 s else (0 : Int)
noncomputable def vev13_6 (l t g n : Int) (s : List UInt8) : Bool := bif vev38_0 t n then false else bif decide (t ≤ (1 : Int)) then vev39n_6 t g n (ByteArray.mk #[]).data.toList (0 : Int) (0 : Int) false (0 : Int) (0 : Int) (0 : Int) (0 : Int) s else bif bif t == (2 : Int) then (↑s.length : Int) != (5 : Int) else false then false else bif vev40n_0 t g n (ByteArray.mk #[]).data.toList (0 : Int) (0 : Int) false (0 : Int) (0 : Int) (0 : Int) (0 : Int) (↑s.length : Int) then false else bif t == (2 : Int) then vev41n_0 t g n (ByteArray.mk #[]).data.toList (0 : Int) (0 : Int) false (0 : Int) (0 : Int) (0 : Int) (0 : Int) s else false
noncomputable def vev13_7 (l t g n : Int) (s : List UInt8) : Int := bif vev38_0 t n then (0 : Int) else bif decide (t ≤ (1 : Int)) then vev39n_7 t g n (ByteArray.mk #[]).data.toList (0 : Int) (0 : Int) false (0 : Int) (0 : Int) (0 : Int) (0 : Int) s else bif bif t == (2 : Int) then (↑s.length : Int) != (5 : Int) else false then (0 : Int) else bif vev40n_0 t g n (ByteArray.mk #[]).data.toList (0 : Int) (0 : Int) false (0 : Int) (0 : Int) (0 : Int) (0 : Int) (↑s.length : Int) then (0 : Int) else bif t == (2 : Int) then vev41n_1 t g n (ByteArray.mk #[]).data.toList (0 : Int) (0 : Int) false (0 : Int) (0 : Int) (0 : Int) (0 : Int) s else (0 : Int)
noncomputable def vev13_8 (l t g n : Int) (s : List UInt8) : Int := bif vev38_0 t n then (0 : Int) else bif decide (t ≤ (1 : Int)) then vev39n_8 t g n (ByteArray.mk #[]).data.toList (0 : Int) (0 : Int) false (0 : Int) (0 : Int) (0 : Int) (0 : Int) s else bif bif t == (2 : Int) then (↑s.length : Int) != (5 : Int) else false then (0 : Int) else bif vev40n_0 t g n (ByteArray.mk #[]).data.toList (0 : Int) (0 : Int) false (0 : Int) (0 : Int) (0 : Int) (0 : Int) (↑s.length : Int) then (0 : Int) else bif t == (2 : Int) then (0 : Int) else bif t == (3 : Int) then IntKind.u32.wrap (vev42_0 s) else bif t == (4 : Int) then (0 : Int) else bif t == (7 : Int) then IntKind.u32.wrap (vev42_0 (rev13_1 l t g n s)) else (0 : Int)
noncomputable def vev13_9 (l t g n : Int) (s : List UInt8) : Int := bif vev38_0 t n then (0 : Int) else bif decide (t ≤ (1 : Int)) then vev39n_9 t g n (ByteArray.mk #[]).data.toList (0 : Int) (0 : Int) false (0 : Int) (0 : Int) (0 : Int) (0 : Int) s else bif bif t == (2 : Int) then (↑s.length : Int) != (5 : Int) else false then (0 : Int) else bif vev40n_0 t g n (ByteArray.mk #[]).data.toList (0 : Int) (0 : Int) false (0 : Int) (0 : Int) (0 : Int) (0 : Int) (↑s.length : Int) then (0 : Int) else bif t == (2 : Int) then (0 : Int) else bif t == (3 : Int) then (0 : Int) else bif t == (4 : Int) then (0 : Int) else bif t == (7 : Int) then vev43_0 s else (0 : Int)
noncomputable def vev13_10 (l t g n : Int) (s : List UInt8) : Int := bif vev38_0 t n then (0 : Int) else bif decide (t ≤ (1 : Int)) then vev39n_10 t g n (ByteArray.mk #[]).data.toList (0 : Int) (0 : Int) false (0 : Int) (0 : Int) (0 : Int) (0 : Int) s else bif bif t == (2 : Int) then (↑s.length : Int) != (5 : Int) else false then (0 : Int) else bif vev40n_0 t g n (ByteArray.mk #[]).data.toList (0 : Int) (0 : Int) false (0 : Int) (0 : Int) (0 : Int) (0 : Int) (↑s.length : Int) then (0 : Int) else bif t == (2 : Int) then (0 : Int) else bif t == (3 : Int) then (0 : Int) else bif t == (4 : Int) then (0 : Int) else bif t == (7 : Int) then (0 : Int) else bif t == (8 : Int) then bif vev43_0 s == (0 : Int) then (0 : Int) else vev43_0 s else (0 : Int)
noncomputable def vev13_11 (l t g n : Int) (s : List UInt8) : List (List AV) := bif vev38_0 t n then [] else bif decide (t ≤ (1 : Int)) then [] else bif bif t == (2 : Int) then (↑s.length : Int) != (5 : Int) else false then [] else bif vev40n_0 t g n (ByteArray.mk #[]).data.toList (0 : Int) (0 : Int) false (0 : Int) (0 : Int) (0 : Int) (0 : Int) (↑s.length : Int) then [] else bif t == (2 : Int) then [] else bif t == (3 : Int) then [] else bif t == (4 : Int) then (rev13_0 l t g n s).snd else []
noncomputable def vev13_12 (l t g n : Int) (s : List UInt8) : Int := bif vev38_0 t n then (1 : Int) else bif decide (t ≤ (1 : Int)) then vev39n_11 t g n (ByteArray.mk #[]).data.toList (0 : Int) (0 : Int) false (0 : Int) (0 : Int) (0 : Int) (0 : Int) s else bif bif t == (2 : Int) then (↑s.length : Int) != (5 : Int) else false then (6 : Int) else bif vev40n_0 t g n (ByteArray.mk #[]).data.toList (0 : Int) (0 : Int) false (0 : Int) (0 : Int) (0 : Int) (0 : Int) (↑s.length : Int) then (6 : Int) else bif t == (2 : Int) then (0 : Int) else bif t == (3 : Int) then (0 : Int) else bif t == (4 : Int) then (0 : Int) else bif t == (7 : Int) then (0 : Int) else bif t == (8 : Int) then bif vev43_0 s == (0 : Int) then (1 : Int) else (0 : Int) else (0 : Int)
noncomputable def vev13_13 (l t g n : Int) (s : List UInt8) : Int := bif vev38_0 t n then (0 : Int) else bif decide (t ≤ (1 : Int)) then (0 : Int) else bif bif t == (2 : Int) then (↑s.length : Int) != (5 : Int) else false then n else bif vev40n_0 t g n (ByteArray.mk #[]).data.toList (0 : Int) (0 : Int) false (0 : Int) (0 : Int) (0 : Int) (0 : Int) (↑s.length : Int) then (0 : Int) else bif t == (2 : Int) then (0 : Int) else bif t == (3 : Int) then (0 : Int) else bif t == (4 : Int) then (0 : Int) else bif t == (7 : Int) then (0 : Int) else bif t == (8 : Int) then bif vev43_0 s == (0 : Int) then n else (0 : Int) else (0 : Int)
noncomputable def vev13_14 (l t g n : Int) (s : List UInt8) : Bool := bif vev38_0 t n then true else bif decide (t ≤ (1 : Int)) then bif vev39n_12 t g n (ByteArray.mk #[]).data.toList (0 : Int) (0 : Int) false (0 : Int) (0 : Int) (0 : Int) (0 : Int) s then true else false else bif bif t == (2 : Int) then (↑s.length : Int) != (5 : Int) else false then true else bif vev40n_1 t g n (ByteArray.mk #[]).data.toList (0 : Int) (0 : Int) false (0 : Int) (0 : Int) (0 : Int) (0 : Int) (↑s.length : Int) then bif vev40n_0 t g n (ByteArray.mk #[]).data.toList (0 : Int) (0 : Int) false (0 : Int) (0 : Int) (0 : Int) (0 : Int) (↑s.length : Int) then true else bif t == (2 : Int) then bif vev41n_2 t g n (ByteArray.mk #[]).data.toList (0 : Int) (0 : Int) false (0 : Int) (0 : Int) (0 : Int) (0 : Int) s then true else false else bif t == (3 : Int) then bif vev42_1 s then true else false else bif t == (4 : Int) then bif (spI g13_18 n13_18 y13_18 z13_18 d13_18 ((s, t, g, n, (ByteArray.mk #[]).data.toList, (0 : Int), (0 : Int), false, (0 : Int), (0 : Int), (0 : Int), (0 : Int), (0 : Int), (0 : Int), (0 : Int), (ByteArray.mk #[]).data.toList, (0 : Int), (0 : Int), false, (0 : Int), (0 : Int), (0 : Int), (0 : Int), (0 : Int), (0 : Int)), (0 : Int), [])).fst then true else false else bif t == (7 : Int) then bif vev43_1 s then bif bnd (4 : Int) (8 : Int) (↑s.length : Int) then bif vev42_1 (rev13_1 l t g n s) then bif bnd (8 : Int) (↑s.length : Int) (↑s.length : Int) then true else false else false else false else false else bif t == (8 : Int) then bif vev43_1 s then true else false else true else false
theorem ev13 (l t g n : Int) (s : List UInt8) : evFin (cfg Try.prog tab 100000 (gk k39n 30) lsp13 13 ([] : List Blk).length Try.f13.ntmps) ([] : List Blk).length Try.f13.resultTypes.toList Try.f13 [.agg [.int .i64 l, .int .u8 t, .int .u8 g, .int .i64 n], .str s] [] = bif vev13_14 l t g n s then some (true, AV.tup [AV.agg [AV.int IntKind.u8 (vev13_0 l t g n s), AV.int IntKind.u8 (vev13_1 l t g n s), AV.int IntKind.i64 (vev13_2 l t g n s), AV.str (vev13_3 l t g n s), AV.int IntKind.i64 (vev13_4 l t g n s), AV.int IntKind.i64 (vev13_5 l t g n s), AV.bool (vev13_6 l t g n s), AV.int IntKind.u8 (vev13_7 l t g n s), AV.int IntKind.u32 (vev13_8 l t g n s), AV.int IntKind.i64 (vev13_9 l t g n s), AV.int IntKind.i64 (vev13_10 l t g n s), AV.sl Tk.imm [Kd.int IntKind.u16, Kd.int IntKind.u32] (vev13_11 l t g n s)], AV.agg [AV.int IntKind.i64 (vev13_12 l t g n s), AV.int IntKind.i64 (vev13_13 l t g n s)]], []) else none := by
  have h : evFin (cfg Try.prog tab 100000 (gk k39n 30) lsp13 13 ([] : List Blk).length Try.f13.ntmps) ([] : List Blk).length Try.f13.resultTypes.toList Try.f13 [.agg [.int .i64 l, .int .u8 t, .int .u8 g, .int .i64 n], .str s] [] = bif vev38_0 t n then some (true, AV.tup [AV.agg [AV.int IntKind.u8 (0 : Int), AV.int IntKind.u8 (0 : Int), AV.int IntKind.i64 (0 : Int), AV.str (ByteArray.mk #[]).data.toList, AV.int IntKind.i64 (0 : Int), AV.int IntKind.i64 (0 : Int), AV.bool false, AV.int IntKind.u8 (0 : Int), AV.int IntKind.u32 (0 : Int), AV.int IntKind.i64 (0 : Int), AV.int IntKind.i64 (0 : Int), AV.sl Tk.imm [Kd.int IntKind.u16, Kd.int IntKind.u32] []], AV.agg [AV.int IntKind.i64 (1 : Int), AV.int IntKind.i64 (0 : Int)]], []) else bif decide (t ≤ (1 : Int)) then bif vev39n_12 t g n (ByteArray.mk #[]).data.toList (0 : Int) (0 : Int) false (0 : Int) (0 : Int) (0 : Int) (0 : Int) s then some (true, AV.tup [AV.agg [AV.int IntKind.u8 (vev39n_0 t g n (ByteArray.mk #[]).data.toList (0 : Int) (0 : Int) false (0 : Int) (0 : Int) (0 : Int) (0 : Int) s), AV.int IntKind.u8 (vev39n_1 t g n (ByteArray.mk #[]).data.toList (0 : Int) (0 : Int) false (0 : Int) (0 : Int) (0 : Int) (0 : Int) s), AV.int IntKind.i64 (vev39n_2 t g n (ByteArray.mk #[]).data.toList (0 : Int) (0 : Int) false (0 : Int) (0 : Int) (0 : Int) (0 : Int) s), AV.str (vev39n_3 t g n (ByteArray.mk #[]).data.toList (0 : Int) (0 : Int) false (0 : Int) (0 : Int) (0 : Int) (0 : Int) s), AV.int IntKind.i64 (vev39n_4 t g n (ByteArray.mk #[]).data.toList (0 : Int) (0 : Int) false (0 : Int) (0 : Int) (0 : Int) (0 : Int) s), AV.int IntKind.i64 (vev39n_5 t g n (ByteArray.mk #[]).data.toList (0 : Int) (0 : Int) false (0 : Int) (0 : Int) (0 : Int) (0 : Int) s), AV.bool (vev39n_6 t g n (ByteArray.mk #[]).data.toList (0 : Int) (0 : Int) false (0 : Int) (0 : Int) (0 : Int) (0 : Int) s), AV.int IntKind.u8 (vev39n_7 t g n (ByteArray.mk #[]).data.toList (0 : Int) (0 : Int) false (0 : Int) (0 : Int) (0 : Int) (0 : Int) s), AV.int IntKind.u32 (vev39n_8 t g n (ByteArray.mk #[]).data.toList (0 : Int) (0 : Int) false (0 : Int) (0 : Int) (0 : Int) (0 : Int) s), AV.int IntKind.i64 (vev39n_9 t g n (ByteArray.mk #[]).data.toList (0 : Int) (0 : Int) false (0 : Int) (0 : Int) (0 : Int) (0 : Int) s), AV.int IntKind.i64 (vev39n_10 t g n (ByteArray.mk #[]).data.toList (0 : Int) (0 : Int) false (0 : Int) (0 : Int) (0 : Int) (0 : Int) s), AV.sl Tk.imm [Kd.int IntKind.u16, Kd.int IntKind.u32] []], AV.agg [AV.int IntKind.i64 (vev39n_11 t g n (ByteArray.mk #[]).data.toList (0 : Int) (0 : Int) false (0 : Int) (0 : Int) (0 : Int) (0 : Int) s), AV.int IntKind.i64 (0 : Int)]], []) else none else bif bif t == (2 : Int) then true else true then bif bif t == (2 : Int) then bif true then (↑s.length : Int) != (5 : Int) else false else false then some (true, AV.tup [AV.agg [AV.int IntKind.u8 (0 : Int), AV.int IntKind.u8 (0 : Int), AV.int IntKind.i64 (0 : Int), AV.str (ByteArray.mk #[]).data.toList, AV.int IntKind.i64 (0 : Int), AV.int IntKind.i64 (0 : Int), AV.bool false, AV.int IntKind.u8 (0 : Int), AV.int IntKind.u32 (0 : Int), AV.int IntKind.i64 (0 : Int), AV.int IntKind.i64 (0 : Int), AV.sl Tk.imm [Kd.int IntKind.u16, Kd.int IntKind.u32] []], AV.agg [AV.int IntKind.i64 (6 : Int), AV.int IntKind.i64 n]], []) else bif vev40n_1 t g n (ByteArray.mk #[]).data.toList (0 : Int) (0 : Int) false (0 : Int) (0 : Int) (0 : Int) (0 : Int) (↑s.length : Int) then bif vev40n_0 t g n (ByteArray.mk #[]).data.toList (0 : Int) (0 : Int) false (0 : Int) (0 : Int) (0 : Int) (0 : Int) (↑s.length : Int) then some (true, AV.tup [AV.agg [AV.int IntKind.u8 (0 : Int), AV.int IntKind.u8 (0 : Int), AV.int IntKind.i64 (0 : Int), AV.str (ByteArray.mk #[]).data.toList, AV.int IntKind.i64 (0 : Int), AV.int IntKind.i64 (0 : Int), AV.bool false, AV.int IntKind.u8 (0 : Int), AV.int IntKind.u32 (0 : Int), AV.int IntKind.i64 (0 : Int), AV.int IntKind.i64 (0 : Int), AV.sl Tk.imm [Kd.int IntKind.u16, Kd.int IntKind.u32] []], AV.agg [AV.int IntKind.i64 (6 : Int), AV.int IntKind.i64 (0 : Int)]], []) else bif t == (2 : Int) then bif vev41n_2 t g n (ByteArray.mk #[]).data.toList (0 : Int) (0 : Int) false (0 : Int) (0 : Int) (0 : Int) (0 : Int) s then some (true, AV.tup [AV.agg [AV.int IntKind.u8 t, AV.int IntKind.u8 g, AV.int IntKind.i64 n, AV.str (ByteArray.mk #[]).data.toList, AV.int IntKind.i64 (0 : Int), AV.int IntKind.i64 (vev43_0 s), AV.bool (vev41n_0 t g n (ByteArray.mk #[]).data.toList (0 : Int) (0 : Int) false (0 : Int) (0 : Int) (0 : Int) (0 : Int) s), AV.int IntKind.u8 (vev41n_1 t g n (ByteArray.mk #[]).data.toList (0 : Int) (0 : Int) false (0 : Int) (0 : Int) (0 : Int) (0 : Int) s), AV.int IntKind.u32 (0 : Int), AV.int IntKind.i64 (0 : Int), AV.int IntKind.i64 (0 : Int), AV.sl Tk.imm [Kd.int IntKind.u16, Kd.int IntKind.u32] []], AV.agg [AV.int IntKind.i64 (0 : Int), AV.int IntKind.i64 (0 : Int)]], []) else none else bif t == (3 : Int) then bif vev42_1 s then some (true, AV.tup [AV.agg [AV.int IntKind.u8 t, AV.int IntKind.u8 g, AV.int IntKind.i64 n, AV.str (ByteArray.mk #[]).data.toList, AV.int IntKind.i64 (0 : Int), AV.int IntKind.i64 (0 : Int), AV.bool false, AV.int IntKind.u8 (0 : Int), AV.int IntKind.u32 (IntKind.u32.wrap (vev42_0 s)), AV.int IntKind.i64 (0 : Int), AV.int IntKind.i64 (0 : Int), AV.sl Tk.imm [Kd.int IntKind.u16, Kd.int IntKind.u32] []], AV.agg [AV.int IntKind.i64 (0 : Int), AV.int IntKind.i64 (0 : Int)]], []) else none else bif t == (4 : Int) then bif (spI g13_18 n13_18 y13_18 z13_18 d13_18 ((s, t, g, n, (ByteArray.mk #[]).data.toList, (0 : Int), (0 : Int), false, (0 : Int), (0 : Int), (0 : Int), (0 : Int), (0 : Int), (0 : Int), (0 : Int), (ByteArray.mk #[]).data.toList, (0 : Int), (0 : Int), false, (0 : Int), (0 : Int), (0 : Int), (0 : Int), (0 : Int), (0 : Int)), (0 : Int), [])).fst then some (true, AV.tup [AV.agg [AV.int IntKind.u8 t, AV.int IntKind.u8 g, AV.int IntKind.i64 n, AV.str (ByteArray.mk #[]).data.toList, AV.int IntKind.i64 (0 : Int), AV.int IntKind.i64 (0 : Int), AV.bool false, AV.int IntKind.u8 (0 : Int), AV.int IntKind.u32 (0 : Int), AV.int IntKind.i64 (0 : Int), AV.int IntKind.i64 (0 : Int), AV.sl Tk.imm [Kd.int IntKind.u16, Kd.int IntKind.u32] (rev13_0 l t g n s).snd], AV.agg [AV.int IntKind.i64 (0 : Int), AV.int IntKind.i64 (0 : Int)]], []) else none else bif t == (7 : Int) then bif vev43_1 s then bif bnd (4 : Int) (8 : Int) (↑s.length : Int) then bif vev42_1 (rev13_1 l t g n s) then bif bnd (8 : Int) (↑s.length : Int) (↑s.length : Int) then some (true, AV.tup [AV.agg [AV.int IntKind.u8 t, AV.int IntKind.u8 g, AV.int IntKind.i64 n, AV.str (List.drop (Int.toNat (8 : Int)) s), AV.int IntKind.i64 (0 : Int), AV.int IntKind.i64 (0 : Int), AV.bool false, AV.int IntKind.u8 (0 : Int), AV.int IntKind.u32 (IntKind.u32.wrap (vev42_0 (rev13_1 l t g n s))), AV.int IntKind.i64 (vev43_0 s), AV.int IntKind.i64 (0 : Int), AV.sl Tk.imm [Kd.int IntKind.u16, Kd.int IntKind.u32] []], AV.agg [AV.int IntKind.i64 (0 : Int), AV.int IntKind.i64 (0 : Int)]], []) else none else none else none else none else bif t == (8 : Int) then bif vev43_1 s then bif vev43_0 s == (0 : Int) then some (true, AV.tup [AV.agg [AV.int IntKind.u8 (0 : Int), AV.int IntKind.u8 (0 : Int), AV.int IntKind.i64 (0 : Int), AV.str (ByteArray.mk #[]).data.toList, AV.int IntKind.i64 (0 : Int), AV.int IntKind.i64 (0 : Int), AV.bool false, AV.int IntKind.u8 (0 : Int), AV.int IntKind.u32 (0 : Int), AV.int IntKind.i64 (0 : Int), AV.int IntKind.i64 (0 : Int), AV.sl Tk.imm [Kd.int IntKind.u16, Kd.int IntKind.u32] []], AV.agg [AV.int IntKind.i64 (1 : Int), AV.int IntKind.i64 n]], []) else some (true, AV.tup [AV.agg [AV.int IntKind.u8 t, AV.int IntKind.u8 g, AV.int IntKind.i64 n, AV.str (ByteArray.mk #[]).data.toList, AV.int IntKind.i64 (0 : Int), AV.int IntKind.i64 (0 : Int), AV.bool false, AV.int IntKind.u8 (0 : Int), AV.int IntKind.u32 (0 : Int), AV.int IntKind.i64 (0 : Int), AV.int IntKind.i64 (vev43_0 s), AV.sl Tk.imm [Kd.int IntKind.u16, Kd.int IntKind.u32] []], AV.agg [AV.int IntKind.i64 (0 : Int), AV.int IntKind.i64 (0 : Int)]], []) else none else some (true, AV.tup [AV.agg [AV.int IntKind.u8 t, AV.int IntKind.u8 g, AV.int IntKind.i64 n, AV.str s, AV.int IntKind.i64 (0 : Int), AV.int IntKind.i64 (0 : Int), AV.bool false, AV.int IntKind.u8 (0 : Int), AV.int IntKind.u32 (0 : Int), AV.int IntKind.i64 (0 : Int), AV.int IntKind.i64 (0 : Int), AV.sl Tk.imm [Kd.int IntKind.u16, Kd.int IntKind.u32] []], AV.agg [AV.int IntKind.i64 (0 : Int), AV.int IntKind.i64 (0 : Int)]], []) else none else none := by kernel_rfl
  rw [h]
  clear h
  unfold vev13_0 vev13_1 vev13_2 vev13_3 vev13_4 vev13_5 vev13_6 vev13_7 vev13_8 vev13_9 vev13_10 vev13_11 vev13_12 vev13_13 vev13_14
  generalize ((spI g13_18 n13_18 y13_18 z13_18 d13_18 ((s, t, g, n, (ByteArray.mk #[]).data.toList, (0 : Int), (0 : Int), false, (0 : Int), (0 : Int), (0 : Int), (0 : Int), (0 : Int), (0 : Int), (0 : Int), (ByteArray.mk #[]).data.toList, (0 : Int), (0 : Int), false, (0 : Int), (0 : Int), (0 : Int), (0 : Int), (0 : Int), (0 : Int)), (0 : Int), [])).fst) = c0
  generalize (vev40n_1 t g n (ByteArray.mk #[]).data.toList (0 : Int) (0 : Int) false (0 : Int) (0 : Int) (0 : Int) (0 : Int) (↑s.length : Int)) = c1
  generalize (vev40n_0 t g n (ByteArray.mk #[]).data.toList (0 : Int) (0 : Int) false (0 : Int) (0 : Int) (0 : Int) (0 : Int) (↑s.length : Int)) = c2
  generalize (vev41n_2 t g n (ByteArray.mk #[]).data.toList (0 : Int) (0 : Int) false (0 : Int) (0 : Int) (0 : Int) (0 : Int) s) = c3
  generalize (vev39n_12 t g n (ByteArray.mk #[]).data.toList (0 : Int) (0 : Int) false (0 : Int) (0 : Int) (0 : Int) (0 : Int) s) = c4
  generalize (bnd (8 : Int) (↑s.length : Int) (↑s.length : Int)) = c5
  generalize (bnd (4 : Int) (8 : Int) (↑s.length : Int)) = c6
  generalize (decide (t ≤ (1 : Int))) = c7
  generalize ((↑s.length : Int) != (5 : Int)) = c8
  generalize (vev43_0 s == (0 : Int)) = c9
  generalize (t == (3 : Int)) = c10
  generalize (t == (2 : Int)) = c11
  generalize (t == (7 : Int)) = c12
  generalize (t == (8 : Int)) = c13
  generalize (t == (4 : Int)) = c14
  generalize (vev42_1 (rev13_1 l t g n s)) = c15
  generalize (vev38_0 t n) = c16
  generalize (vev42_1 s) = c17
  generalize (vev43_1 s) = c18
  cases c16; cases c7; cases c11; cases c1; rfl; cases c2; cases c10; cases c14; cases c12; cases c13; rfl; cases c18; rfl; cases c9; rfl; rfl
  cases c18; rfl; cases c6; rfl; cases c15; rfl; cases c5; rfl; rfl; cases c0; rfl; rfl; cases c17; rfl; rfl; rfl; cases c8; cases c1; rfl; cases c2
  cases c3; rfl; rfl; rfl; rfl; cases c4; rfl; rfl; rfl
-- spec vev13_14 l t g n s ;; (true, AV.tup [AV.agg [AV.int IntKind.u8 (vev13_0 l t g n s), AV.int IntKind.u8 (vev13_1 l t g n s), AV.int IntKind.i64 (vev13_2 l t g n s), AV.str (vev13_3 l t g n s), AV.int IntKind.i64 (vev13_4 l t g n s), AV.int IntKind.i64 (vev13_5 l t g n s), AV.bool (vev13_6 l t g n s), AV.int IntKind.u8 (vev13_7 l t g n s), AV.int IntKind.u32 (vev13_8 l t g n s), AV.int IntKind.i64 (vev13_9 l t g n s), AV.int IntKind.i64 (vev13_10 l t g n s), AV.sl Tk.imm [Kd.int IntKind.u16, Kd.int IntKind.u32] (vev13_11 l t g n s)], AV.agg [AV.int IntKind.i64 (vev13_12 l t g n s), AV.int IntKind.i64 (vev13_13 l t g n s)]], [])
noncomputable def sp13 : List AV → List Blk → Option (Bool × AV × List Blk)
  | [.agg [.int .i64 l, .int .u8 t, .int .u8 g, .int .i64 n], .str s], [] => spW (vev13_14 l t g n s) (some ((true, AV.tup [AV.agg [AV.int IntKind.u8 (vev13_0 l t g n s), AV.int IntKind.u8 (vev13_1 l t g n s), AV.int IntKind.i64 (vev13_2 l t g n s), AV.str (vev13_3 l t g n s), AV.int IntKind.i64 (vev13_4 l t g n s), AV.int IntKind.i64 (vev13_5 l t g n s), AV.bool (vev13_6 l t g n s), AV.int IntKind.u8 (vev13_7 l t g n s), AV.int IntKind.u32 (vev13_8 l t g n s), AV.int IntKind.i64 (vev13_9 l t g n s), AV.int IntKind.i64 (vev13_10 l t g n s), AV.sl Tk.imm [Kd.int IntKind.u16, Kd.int IntKind.u32] (vev13_11 l t g n s)], AV.agg [AV.int IntKind.i64 (vev13_12 l t g n s), AV.int IntKind.i64 (vev13_13 l t g n s)]], [])))
  | _, _ => none
noncomputable def k13 : Gam := fun f T C => match Nat.beq f 13 with
  | true => (sp13 T C).or (k39n f T C)
  | false => k39n f T C
theorem k13_ok : GamOK Try.prog k13 := by
  intro f T C r outs h
  unfold k13 at h
  cases hf : Nat.beq f 13 with
  | false => rw [hf] at h; exact k39n_ok f T C r outs h
  | true =>
    have hf' := Nat.eq_of_beq_eq_true hf
    subst hf'
    rw [hf] at h
    dsimp only at h
    cases hs : sp13 T C with
    | none => rw [hs] at h; exact k39n_ok _ T C r outs h
    | some x =>
      rw [hs] at h
      have hx : x = (true, r, outs) := by simpa using h
      subst hx
      unfold sp13 at hs
      split at hs
      · rename_i l t g n s
        obtain ⟨hb, rfl, rfl⟩ := spT_inv hs
        have he := ev13 l t g n s
        rw [hb, cond_true] at he
        obtain ⟨r0, o0, h0, he⟩ := evFin_inv he
        obtain ⟨h1, h2⟩ := fn_ok mixed plain (gk_ok k39n_ok 30) Try.func13 loops13 h0
        exact ⟨h1, h2.fin he⟩
      · cases hs
end Go.Proofs.Gv
