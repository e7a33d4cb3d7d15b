import Derived.Test.YthnbpgiohimkoaaPi27
import Derived.KernelRfl
import Derived.Test.YthnbpgiohimkoaaPi30
import Derived.Test.YthnbpgiohimkoaaPi31
import Derived.Test.YthnbpgiohimkoaaPi42
set_option linter.unusedVariables false
namespace Go.Proofs.Gv
open Go.Proofs
noncomputable def vev58_0 (n : Int) : Bool := bif decide (n ≥ (0 : Int)) then bif true then decide (n ≤ (1099511627776 : Int)) else false else false
theorem ev58 (n : Int) : evFin (cfg Try.prog tab 100000 (gk kB 30) noLsp 58 ([] : List Blk).length Try.f58.ntmps) ([] : List Blk).length Try.f58.resultTypes.toList Try.f58 [.int .i64 n] [] = bif true then some (true, AV.bool (vev58_0 n), []) else none := by
 have h : evFin (cfg Try.prog tab 100000 (gk kB 30) noLsp 58 ([] : List Blk).length Try.f58.ntmps) ([] : List Blk).length Try.f58.resultTypes.toList Try.f58 [.int .i64 n] [] = bif bif decide (n ≥ (0 : Int)) then true else true then some (true, AV.bool (bif decide (n ≥ (0 : Int)) then bif true then decide (n ≤ (1099511627776 : Int)) else false else false), []) else none := by kernel_rfl
 rw [h]
 clear h
 unfold vev58_0
 generalize (decide (n ≥ (0 : Int))) = c0
 cases c0
 ·skip
  rfl
 ·skip
  rfl
noncomputable def sp58 : List AV → List Blk → Option (Bool × AV × List Blk)
 | [.int .i64 n], [] => spW (true) (some ((true, AV.bool (vev58_0 n), [])))
 | _, _ => none
noncomputable def k58 : Gam := fun f T C => match Nat.beq f 58 with
 | true => (sp58 T C).or (kB f T C)
 | false => kB f T C
theorem k58_ok : GamOK Try.prog k58 := by
 intro f T C r outs h
 unfold k58 at h
 cases hf : Nat.beq f 58 with
 | false => rw [hf] at h; exact kB_ok f T C r outs h
 | true =>
   have hf' := Nat.eq_of_beq_eq_true hf
   subst hf'
   rw [hf] at h
   dsimp only at h
   cases hs : sp58 T C with
   | none => rw [hs, Option.none_or] at h; exact kB_ok _ T C r outs h
   | some x =>
     rw [hs] at h
     have hx : x = (true, r, outs) := by simpa using h
     subst hx
     unfold sp58 at hs
     split at hs
     ·rename_i n
      obtain ⟨hb, rfl, rfl⟩ := spT_inv hs
      have he := ev58 n
      obtain ⟨r0, o0, h0, he⟩ := evFin_inv he
      obtain ⟨h1, h2⟩ := fn_ok mixed plain (gk_ok kB_ok 30) Try.func58 (fun c _ => LoopsOK.none (fun _ _ => rfl) c) h0
      exact ⟨h1, h2.fin he⟩
     ·cases hs
noncomputable def rn20_5_0 (t29 : List (List AV)) (t30 : Int) (t31 : Int) (b0_0 : List (List AV)) (b0_1 : List (List AV)) (b0_2 : Int) : Int := intOf ((t29.getD t31.toNat []).getD (0 : Nat) AV.junk)
noncomputable def rn20_5_1 (t29 : List (List AV)) (t30 : Int) (t31 : Int) (b0_0 : List (List AV)) (b0_1 : List (List AV)) (b0_2 : Int) : Int := intOf ((b0_1.getD t31.toNat []).getD (0 : Nat) AV.junk)
noncomputable def go20_5 (t29 : List (List AV)) (t30 : Int) (t31 : Int) (b0_0 : List (List AV)) (b0_1 : List (List AV)) (b0_2 : Int) : Bool := bif decide (t31 < t30) then bif decide ((0 : Int) ≤ t31) && decide (t31 < (↑t29.length : Int)) then bif bif !vev58_0 (rn20_5_0 t29 t30 t31 b0_0 b0_1 b0_2) then true else bif decide ((0 : Int) ≤ t31) && decide (t31 < (↑b0_1.length : Int)) then bif !vev58_0 (rn20_5_1 t29 t30 t31 b0_0 b0_1 b0_2) then true else decide ((0 : Int) ≤ t31) && decide (t31 < (↑b0_1.length : Int)) else false then bif bif !vev58_0 (rn20_5_0 t29 t30 t31 b0_0 b0_1 b0_2) then true else bif decide ((0 : Int) ≤ t31) && decide (t31 < (↑b0_1.length : Int)) then bif !vev58_0 (rn20_5_1 t29 t30 t31 b0_0 b0_1 b0_2) then true else bif decide ((0 : Int) ≤ t31) && decide (t31 < (↑b0_1.length : Int)) then decide (rn20_5_1 t29 t30 t31 b0_0 b0_1 b0_2 > rn20_5_0 t29 t30 t31 b0_0 b0_1 b0_2) else false else false then false else true else false else false else false
noncomputable def nx20_5_2 (t29 : List (List AV)) (t30 : Int) (t31 : Int) (b0_0 : List (List AV)) (b0_1 : List (List AV)) (b0_2 : Int) : Int := IntKind.i64.wrap (t31 + (1 : Int))
noncomputable def xc20_5_0 (t29 : List (List AV)) (t30 : Int) (t31 : Int) (b0_0 : List (List AV)) (b0_1 : List (List AV)) (b0_2 : Int) : Bool := bif decide (t31 < t30) then bif decide ((0 : Int) ≤ t31) && decide (t31 < (↑t29.length : Int)) then bif bif !vev58_0 (rn20_5_0 t29 t30 t31 b0_0 b0_1 b0_2) then true else bif decide ((0 : Int) ≤ t31) && decide (t31 < (↑b0_1.length : Int)) then bif !vev58_0 (rn20_5_1 t29 t30 t31 b0_0 b0_1 b0_2) then true else decide ((0 : Int) ≤ t31) && decide (t31 < (↑b0_1.length : Int)) else false then bif !vev58_0 (rn20_5_0 t29 t30 t31 b0_0 b0_1 b0_2) then true else bif decide ((0 : Int) ≤ t31) && decide (t31 < (↑b0_1.length : Int)) then bif !vev58_0 (rn20_5_1 t29 t30 t31 b0_0 b0_1 b0_2) then true else bif decide ((0 : Int) ≤ t31) && decide (t31 < (↑b0_1.length : Int)) then decide (rn20_5_1 t29 t30 t31 b0_0 b0_1 b0_2 > rn20_5_0 t29 t30 t31 b0_0 b0_1 b0_2) else false else false else false else false else false
noncomputable def xc20_5_1 (t29 : List (List AV)) (t30 : Int) (t31 : Int) (b0_0 : List (List AV)) (b0_1 : List (List AV)) (b0_2 : Int) : Bool := bif decide (t31 < t30) then false else true
theorem rd20_5 (rest : Lsp) (t29 : List (List AV)) (t30 : Int) (t31 : Int) (b0_0 : List (List AV)) (b0_1 : List (List AV)) (b0_2 : Int) : roundV (cfg Try.prog tab 100000 (gk k58 30) rest 20 0 Try.f20.ntmps) (loopAt Try.f20 5) [1, 29, 30, 31] [0] [2] [] [AV.hp (nat_lit 0) (nat_lit 0), AV.sl Tk.imm [Kd.int IntKind.i64] t29, AV.int IntKind.i64 t30, AV.int IntKind.i64 t31] [Blk.var [AV.sl Tk.imm [Kd.int IntKind.i64] b0_0, AV.sl Tk.imm [Kd.int IntKind.i64] b0_1, AV.int IntKind.i64 b0_2]] = bif go20_5 t29 t30 t31 b0_0 b0_1 b0_2 then some (Ex.norm, [AV.hp (nat_lit 0) (nat_lit 0), AV.sl Tk.imm [Kd.int IntKind.i64] t29, AV.int IntKind.i64 t30, AV.int IntKind.i64 (nx20_5_2 t29 t30 t31 b0_0 b0_1 b0_2)], [Blk.var [AV.sl Tk.imm [Kd.int IntKind.i64] b0_0, AV.sl Tk.imm [Kd.int IntKind.i64] b0_1, AV.int IntKind.i64 b0_2]]) else bif xc20_5_0 t29 t30 t31 b0_0 b0_1 b0_2 then some (Ex.ret, [AV.int IntKind.i64 (8 : Int)], []) else bif xc20_5_1 t29 t30 t31 b0_0 b0_1 b0_2 then some (Ex.exit (nat_lit 0), [AV.junk], []) else none := by
 have h : roundV (cfg Try.prog tab 100000 (gk k58 30) rest 20 0 Try.f20.ntmps) (loopAt Try.f20 5) [1, 29, 30, 31] [0] [2] [] [AV.hp (nat_lit 0) (nat_lit 0), AV.sl Tk.imm [Kd.int IntKind.i64] t29, AV.int IntKind.i64 t30, AV.int IntKind.i64 t31] [Blk.var [AV.sl Tk.imm [Kd.int IntKind.i64] b0_0, AV.sl Tk.imm [Kd.int IntKind.i64] b0_1, AV.int IntKind.i64 b0_2]] = bif decide (t31 < t30) then bif decide ((0 : Int) ≤ t31) && decide (t31 < (↑t29.length : Int)) then bif bif !vev58_0 (rn20_5_0 t29 t30 t31 b0_0 b0_1 b0_2) then true else bif decide ((0 : Int) ≤ t31) && decide (t31 < (↑b0_1.length : Int)) then bif bif false then true else !vev58_0 (rn20_5_1 t29 t30 t31 b0_0 b0_1 b0_2) then true else bif decide ((0 : Int) ≤ t31) && decide (t31 < (↑b0_1.length : Int)) then true else false else false then bif bif !vev58_0 (rn20_5_0 t29 t30 t31 b0_0 b0_1 b0_2) then true else bif decide ((0 : Int) ≤ t31) && decide (t31 < (↑b0_1.length : Int)) then bif bif false then true else !vev58_0 (rn20_5_1 t29 t30 t31 b0_0 b0_1 b0_2) then true else bif decide ((0 : Int) ≤ t31) && decide (t31 < (↑b0_1.length : Int)) then bif false then true else decide (rn20_5_1 t29 t30 t31 b0_0 b0_1 b0_2 > rn20_5_0 t29 t30 t31 b0_0 b0_1 b0_2) else false else false then some (Ex.ret, [AV.int IntKind.i64 (8 : Int)], []) else some (Ex.norm, [AV.hp (nat_lit 0) (nat_lit 0), AV.sl Tk.imm [Kd.int IntKind.i64] t29, AV.int IntKind.i64 t30, AV.int IntKind.i64 (IntKind.i64.wrap (t31 + (1 : Int)))], [Blk.var [AV.sl Tk.imm [Kd.int IntKind.i64] b0_0, AV.sl Tk.imm [Kd.int IntKind.i64] b0_1, AV.int IntKind.i64 b0_2]]) else none else none else some (Ex.exit (nat_lit 0), [AV.junk], []) := by kernel_rfl
 rw [h]
 clear h
 unfold go20_5 nx20_5_2 xc20_5_0 xc20_5_1
 generalize (decide ((0 : Int) ≤ t31) && decide (t31 < (↑b0_1.length : Int))) = c0
 generalize (decide ((0 : Int) ≤ t31) && decide (t31 < (↑t29.length : Int))) = c1
 generalize (decide (rn20_5_1 t29 t30 t31 b0_0 b0_1 b0_2 > rn20_5_0 t29 t30 t31 b0_0 b0_1 b0_2)) = c2
 generalize (decide (t31 < t30)) = c3
 generalize (!vev58_0 (rn20_5_0 t29 t30 t31 b0_0 b0_1 b0_2)) = c4
 generalize (!vev58_0 (rn20_5_1 t29 t30 t31 b0_0 b0_1 b0_2)) = c5
 cases c3
 ·skip
  rfl
 ·skip
  cases c1
  ·skip
   rfl
  ·skip
   cases c4
   ·skip
    cases c0
    ·skip
     rfl
    ·skip
     cases c5
     ·skip
      cases c2
      ·skip
       rfl
      ·skip
       rfl
     ·skip
      rfl
   ·skip
    rfl
abbrev pl20_5 : Type := (List (List AV)) × Int × (List (List AV)) × (List (List AV)) × Int
abbrev sl20_5 : Type := Int
noncomputable def vt20_5 (a : pl20_5 × sl20_5) : List AV := [AV.hp (nat_lit 0) (nat_lit 0), AV.sl Tk.imm [Kd.int IntKind.i64] a.1.1, AV.int IntKind.i64 a.1.2.1, AV.int IntKind.i64 a.2]
noncomputable def vc20_5 (a : pl20_5 × sl20_5) : List Blk := [Blk.var [AV.sl Tk.imm [Kd.int IntKind.i64] a.1.2.2.1, AV.sl Tk.imm [Kd.int IntKind.i64] a.1.2.2.2.1, AV.int IntKind.i64 a.1.2.2.2.2]]
noncomputable def de20_5 (vt : List AV) (vc : List Blk) : Option (pl20_5 × sl20_5) :=
 match vt with
 | [qa0, qa1, qa2, qa3] => (match vc with
 | [qb0] => (match qa0 with
 | AV.hp (0) (0) => (match qa1 with
 | AV.sl Tk.imm [Kd.int IntKind.i64] t29 => (match qa2 with
 | AV.int IntKind.i64 t30 => (match qa3 with
 | AV.int IntKind.i64 t31 => (match qb0 with
 | Blk.var [AV.sl Tk.imm [Kd.int IntKind.i64] b0_0, AV.sl Tk.imm [Kd.int IntKind.i64] b0_1, AV.int IntKind.i64 b0_2] => (some ((t29, t30, b0_0, b0_1, b0_2), t31))
 | _ => none)
 | _ => none)
 | _ => none)
 | _ => none)
 | _ => none)
 | _ => none)
 | _ => none
theorem de20_5_ok (vt : List AV) (vc : List Blk) (a : pl20_5 × sl20_5) (h : de20_5 vt vc = some a) : vt = vt20_5 a ∧ vc = vc20_5 a := by
 unfold de20_5 at h
 split at h
 rotate_left
 ·cases h
 split at h
 rotate_left
 ·cases h
 split at h
 rotate_left
 ·cases h
 split at h
 rotate_left
 ·cases h
 split at h
 rotate_left
 ·cases h
 split at h
 rotate_left
 ·cases h
 split at h
 rotate_left
 ·cases h
 injection h with h
 subst h
 exact ⟨rfl, rfl⟩
noncomputable def g20_5 (p : pl20_5) (s : sl20_5) : Bool := go20_5 p.1 p.2.1 s p.2.2.1 p.2.2.2.1 p.2.2.2.2
noncomputable def n20_5 (p : pl20_5) (s : sl20_5) : sl20_5 := nx20_5_2 p.1 p.2.1 s p.2.2.1 p.2.2.2.1 p.2.2.2.2
noncomputable def y20_5 (p : pl20_5) (s : sl20_5) : List (Bool × Out) := [(xc20_5_0 p.1 p.2.1 s p.2.2.1 p.2.2.2.1 p.2.2.2.2, (Ex.ret, [AV.int IntKind.i64 (8 : Int)], []))]
noncomputable def z20_5 (p : pl20_5) (s : sl20_5) : Bool := xc20_5_1 p.1 p.2.1 s p.2.2.1 p.2.2.2.1 p.2.2.2.2
noncomputable def d20_5 (p : pl20_5) (s : sl20_5) : Out := (Ex.exit (nat_lit 0), [AV.junk], [])
noncomputable def ls20_5 : St → Option (Bool × List (Bool × Ex × St) × Ex × St) := lspOf [1, 29, 30, 31] [0] [2] [] Try.f20.ntmps (0 + tab.nid 20) de20_5 (spI g20_5 n20_5 y20_5 z20_5 d20_5)
theorem lo20_5 (rest : Lsp) : LoopOK1 (cfg Try.prog tab 100000 (gk k58 30) (selL 5 ls20_5 rest) 20 0 Try.f20.ntmps) (loopAt Try.f20 5) := LoopOK1.iter (i := 5) (by kernel_rfl) [1, 29, 30, 31] [0] [2] [] vt20_5 vc20_5 de20_5 g20_5 n20_5 y20_5 z20_5 d20_5 (fun _ => rfl) de20_5_ok (fun p s => rd20_5 (selL 5 ls20_5 rest) (p.1) (p.2.1) s (p.2.2.1) (p.2.2.2.1) (p.2.2.2.2)) (fun _ _ => rfl)
noncomputable def lsp20 : Lsp := (selL 5 ls20_5 noLsp)
theorem loops20 : ∀ c, Try.f20.body = some c → LoopsOK (cfg Try.prog tab 100000 (gk k58 30) lsp20 20 0 Try.f20.ntmps) c := loops_of [5] (by kernel_rfl) (by kernel_rfl) (fun i hi => by
 simp only [List.mem_cons, List.not_mem_nil, or_false] at hi
 subst hi
 ·exact lo20_5 noLsp)
noncomputable def rev20_0 (us : List (List AV)) (ss : List (List AV)) (d : Int) : sl20_5 := finL (g20_5 (us, (↑us.length : Int), us, ss, d)) (n20_5 (us, (↑us.length : Int), us, ss, d)) (0 : Int)
noncomputable def vev20_0 (us : List (List AV)) (ss : List (List AV)) (d : Int) : Int := bif bif decide ((↑us.length : Int) < (1 : Int)) then true else bif decide ((↑us.length : Int) > (8 : Int)) then true else bif (↑us.length : Int) != (↑ss.length : Int) then true else !vev58_0 d then (8 : Int) else bif xc20_5_0 us (↑us.length : Int) (rev20_0 us ss d) us ss d then (8 : Int) else (0 : Int)
noncomputable def vev20_1 (us : List (List AV)) (ss : List (List AV)) (d : Int) : Bool := bif bif decide ((↑us.length : Int) < (1 : Int)) then true else bif decide ((↑us.length : Int) > (8 : Int)) then true else bif (↑us.length : Int) != (↑ss.length : Int) then true else !vev58_0 d then true else bif (spI g20_5 n20_5 y20_5 z20_5 d20_5 ((us, (↑us.length : Int), us, ss, d), (0 : Int))).fst then true else false
theorem ev20 (us : List (List AV)) (ss : List (List AV)) (d : Int) : evFin (cfg Try.prog tab 100000 (gk k58 30) lsp20 20 ([] : List Blk).length Try.f20.ntmps) ([] : List Blk).length Try.f20.resultTypes.toList Try.f20 [.agg [.sl .imm [.int .i64] us, .sl .imm [.int .i64] ss, .int .i64 d]] [] = bif vev20_1 us ss d then some (true, AV.int IntKind.i64 (vev20_0 us ss d), []) else none := by
 have h : evFin (cfg Try.prog tab 100000 (gk k58 30) lsp20 20 ([] : List Blk).length Try.f20.ntmps) ([] : List Blk).length Try.f20.resultTypes.toList Try.f20 [.agg [.sl .imm [.int .i64] us, .sl .imm [.int .i64] ss, .int .i64 d]] [] = bif bif decide ((↑us.length : Int) < (1 : Int)) then true else bif bif false then true else decide ((↑us.length : Int) > (8 : Int)) then true else bif bif false then true else (↑us.length : Int) != (↑ss.length : Int) then true else true then bif bif decide ((↑us.length : Int) < (1 : Int)) then true else bif bif false then true else decide ((↑us.length : Int) > (8 : Int)) then true else bif bif false then true else (↑us.length : Int) != (↑ss.length : Int) then true else bif false then true else !vev58_0 d then some (true, AV.int IntKind.i64 (8 : Int), []) else bif (spI g20_5 n20_5 y20_5 z20_5 d20_5 ((us, (↑us.length : Int), us, ss, d), (0 : Int))).fst then bif xc20_5_0 us (↑us.length : Int) (rev20_0 us ss d) us ss d then some (true, AV.int IntKind.i64 (8 : Int), []) else some (true, AV.int IntKind.i64 (0 : Int), []) else none else none := by kernel_rfl
 rw [h]
 clear h
 unfold vev20_0 vev20_1
 generalize ((spI g20_5 n20_5 y20_5 z20_5 d20_5 ((us, (↑us.length : Int), us, ss, d), (0 : Int))).fst) = c0
 generalize (decide ((↑us.length : Int) > (8 : Int))) = c1
 generalize (decide ((↑us.length : Int) < (1 : Int))) = c2
 generalize ((↑us.length : Int) != (↑ss.length : Int)) = c3
 generalize (xc20_5_0 us (↑us.length : Int) (rev20_0 us ss d) us ss d) = c4
 generalize (!vev58_0 d) = c5
 cases c2
 ·skip
  cases c1
  ·skip
   cases c3
   ·skip
    cases c5
    ·skip
     cases c0
     ·skip
      rfl
     ·skip
      cases c4
      ·skip
       rfl
      ·skip
       rfl
    ·skip
     rfl
   ·skip
    rfl
  ·skip
   rfl
 ·skip
  rfl
noncomputable def sp20 : List AV → List Blk → Option (Bool × AV × List Blk)
 | [.agg [.sl .imm [.int .i64] us, .sl .imm [.int .i64] ss, .int .i64 d]], [] => spW (vev20_1 us ss d) (some ((true, AV.int IntKind.i64 (vev20_0 us ss d), [])))
 | _, _ => none
noncomputable def k20 : Gam := fun f T C => match Nat.beq f 20 with
 | true => (sp20 T C).or (k58 f T C)
 | false => k58 f T C
theorem k20_ok : GamOK Try.prog k20 := by
 intro f T C r outs h
 unfold k20 at h
 cases hf : Nat.beq f 20 with
 | false => rw [hf] at h; exact k58_ok f T C r outs h
 | true =>
   have hf' := Nat.eq_of_beq_eq_true hf
   subst hf'
   rw [hf] at h
   dsimp only at h
   cases hs : sp20 T C with
   | none => rw [hs, Option.none_or] at h; exact k58_ok _ T C r outs h
   | some x =>
     rw [hs] at h
     have hx : x = (true, r, outs) := by simpa using h
     subst hx
     unfold sp20 at hs
     split at hs
     ·rename_i us ss d
      obtain ⟨hb, rfl, rfl⟩ := spT_inv hs
      have he := ev20 us ss d
      rw [hb, cond_true] at he
      obtain ⟨r0, o0, h0, he⟩ := evFin_inv he
      obtain ⟨h1, h2⟩ := fn_ok mixed plain (gk_ok k58_ok 30) Try.func20 loops20 h0
      exact ⟨h1, h2.fin he⟩
     ·cases hs
noncomputable def go22_5 (t3 : Int) (t10 : List (List AV)) (t11 : Int) (t12 : Int) : Bool := bif decide (t12 < t11) then decide ((0 : Int) ≤ t12) && decide (t12 < (↑t10.length : Int)) else false
noncomputable def nx22_5_0 (t3 : Int) (t10 : List (List AV)) (t11 : Int) (t12 : Int) : Int := IntKind.i64.wrap (t3 + intOf ((t10.getD t12.toNat []).getD (0 : Nat) AV.junk))
noncomputable def nx22_5_3 (t3 : Int) (t10 : List (List AV)) (t11 : Int) (t12 : Int) : Int := IntKind.i64.wrap (t12 + (1 : Int))
noncomputable def xc22_5_0 (t3 : Int) (t10 : List (List AV)) (t11 : Int) (t12 : Int) : Bool := bif decide (t12 < t11) then false else true
theorem rd22_5 (rest : Lsp) (t3 : Int) (t10 : List (List AV)) (t11 : Int) (t12 : Int) : roundV (cfg Try.prog tab 100000 (gk k20 30) rest 22 0 Try.f22.ntmps) (loopAt Try.f22 5) [3, 10, 11, 12] [] [3] [] [AV.int IntKind.i64 t3, AV.sl Tk.imm [Kd.int IntKind.i64] t10, AV.int IntKind.i64 t11, AV.int IntKind.i64 t12] [] = bif go22_5 t3 t10 t11 t12 then some (Ex.norm, [AV.int IntKind.i64 (nx22_5_0 t3 t10 t11 t12), AV.sl Tk.imm [Kd.int IntKind.i64] t10, AV.int IntKind.i64 t11, AV.int IntKind.i64 (nx22_5_3 t3 t10 t11 t12)], []) else bif xc22_5_0 t3 t10 t11 t12 then some (Ex.exit (nat_lit 0), [AV.int IntKind.i64 t3], []) else none := by
 have h : roundV (cfg Try.prog tab 100000 (gk k20 30) rest 22 0 Try.f22.ntmps) (loopAt Try.f22 5) [3, 10, 11, 12] [] [3] [] [AV.int IntKind.i64 t3, AV.sl Tk.imm [Kd.int IntKind.i64] t10, AV.int IntKind.i64 t11, AV.int IntKind.i64 t12] [] = bif decide (t12 < t11) then bif decide ((0 : Int) ≤ t12) && decide (t12 < (↑t10.length : Int)) then some (Ex.norm, [AV.int IntKind.i64 (IntKind.i64.wrap (t3 + intOf ((t10.getD t12.toNat []).getD (0 : Nat) AV.junk))), AV.sl Tk.imm [Kd.int IntKind.i64] t10, AV.int IntKind.i64 t11, AV.int IntKind.i64 (IntKind.i64.wrap (t12 + (1 : Int)))], []) else none else some (Ex.exit (nat_lit 0), [AV.int IntKind.i64 t3], []) := by kernel_rfl
 rw [h]
 clear h
 unfold go22_5 nx22_5_0 nx22_5_3 xc22_5_0
 generalize (decide ((0 : Int) ≤ t12) && decide (t12 < (↑t10.length : Int))) = c0
 generalize (decide (t12 < t11)) = c1
 cases c1
 ·skip
  rfl
 ·skip
  cases c0
  ·skip
   rfl
  ·skip
   rfl
abbrev pl22_5 : Type := (List (List AV)) × Int
abbrev sl22_5 : Type := Int × Int
noncomputable def vt22_5 (a : pl22_5 × sl22_5) : List AV := [AV.int IntKind.i64 a.2.1, AV.sl Tk.imm [Kd.int IntKind.i64] a.1.1, AV.int IntKind.i64 a.1.2, AV.int IntKind.i64 a.2.2]
noncomputable def vc22_5 (a : pl22_5 × sl22_5) : List Blk := []
noncomputable def de22_5 (vt : List AV) (vc : List Blk) : Option (pl22_5 × sl22_5) :=
 match vt with
 | [qa0, qa1, qa2, qa3] => (match vc with
 | [] => (match qa0 with
 | AV.int IntKind.i64 t3 => (match qa1 with
 | AV.sl Tk.imm [Kd.int IntKind.i64] t10 => (match qa2 with
 | AV.int IntKind.i64 t11 => (match qa3 with
 | AV.int IntKind.i64 t12 => (some ((t10, t11), (t3, t12)))
 | _ => none)
 | _ => none)
 | _ => none)
 | _ => none)
 | _ => none)
 | _ => none
theorem de22_5_ok (vt : List AV) (vc : List Blk) (a : pl22_5 × sl22_5) (h : de22_5 vt vc = some a) : vt = vt22_5 a ∧ vc = vc22_5 a := by
 unfold de22_5 at h
 split at h
 rotate_left
 ·cases h
 split at h
 rotate_left
 ·cases h
 split at h
 rotate_left
 ·cases h
 split at h
 rotate_left
 ·cases h
 split at h
 rotate_left
 ·cases h
 split at h
 rotate_left
 ·cases h
 injection h with h
 subst h
 exact ⟨rfl, rfl⟩
noncomputable def g22_5 (p : pl22_5) (s : sl22_5) : Bool := go22_5 s.1 p.1 p.2 s.2
noncomputable def n22_5 (p : pl22_5) (s : sl22_5) : sl22_5 := (nx22_5_0 s.1 p.1 p.2 s.2, nx22_5_3 s.1 p.1 p.2 s.2)
noncomputable def y22_5 (p : pl22_5) (s : sl22_5) : List (Bool × Out) := []
noncomputable def z22_5 (p : pl22_5) (s : sl22_5) : Bool := xc22_5_0 s.1 p.1 p.2 s.2
noncomputable def d22_5 (p : pl22_5) (s : sl22_5) : Out := (Ex.exit (nat_lit 0), [AV.int IntKind.i64 s.1], [])
noncomputable def ls22_5 : St → Option (Bool × List (Bool × Ex × St) × Ex × St) := lspOf [3, 10, 11, 12] [] [3] [] Try.f22.ntmps (0 + tab.nid 22) de22_5 (spI g22_5 n22_5 y22_5 z22_5 d22_5)
theorem lo22_5 (rest : Lsp) : LoopOK1 (cfg Try.prog tab 100000 (gk k20 30) (selL 5 ls22_5 rest) 22 0 Try.f22.ntmps) (loopAt Try.f22 5) := LoopOK1.iter (i := 5) (by kernel_rfl) [3, 10, 11, 12] [] [3] [] vt22_5 vc22_5 de22_5 g22_5 n22_5 y22_5 z22_5 d22_5 (fun _ => rfl) de22_5_ok (fun p s => rd22_5 (selL 5 ls22_5 rest) (s.1) (p.1) (p.2) (s.2)) (fun _ _ => rfl)
noncomputable def lsp22 : Lsp := (selL 5 ls22_5 noLsp)
theorem loops22 : ∀ c, Try.f22.body = some c → LoopsOK (cfg Try.prog tab 100000 (gk k20 30) lsp22 22 0 Try.f22.ntmps) c := loops_of [5] (by kernel_rfl) (by kernel_rfl) (fun i hi => by
 simp only [List.mem_cons, List.not_mem_nil, or_false] at hi
 subst hi
 ·exact lo22_5 noLsp)
noncomputable def rev22_0 (us : List (List AV)) (ss : List (List AV)) (d : Int) : sl22_5 := finL (g22_5 (us, (↑us.length : Int))) (n22_5 (us, (↑us.length : Int))) ((0 : Int), (0 : Int))
noncomputable def vev22_0 (us : List (List AV)) (ss : List (List AV)) (d : Int) : Int := bif vev20_0 us ss d != (0 : Int) then (0 : Int) else (rev22_0 us ss d).fst
noncomputable def vev22_1 (us : List (List AV)) (ss : List (List AV)) (d : Int) : Bool := bif vev20_1 us ss d then bif vev20_0 us ss d != (0 : Int) then true else bif (spI g22_5 n22_5 y22_5 z22_5 d22_5 ((us, (↑us.length : Int)), (0 : Int), (0 : Int))).fst then true else false else false
theorem ev22 (us : List (List AV)) (ss : List (List AV)) (d : Int) : evFin (cfg Try.prog tab 100000 (gk k20 30) lsp22 22 ([] : List Blk).length Try.f22.ntmps) ([] : List Blk).length Try.f22.resultTypes.toList Try.f22 [.agg [.sl .imm [.int .i64] us, .sl .imm [.int .i64] ss, .int .i64 d]] [] = bif vev22_1 us ss d then some (true, AV.int IntKind.i64 (vev22_0 us ss d), []) else none := by
 have h : evFin (cfg Try.prog tab 100000 (gk k20 30) lsp22 22 ([] : List Blk).length Try.f22.ntmps) ([] : List Blk).length Try.f22.resultTypes.toList Try.f22 [.agg [.sl .imm [.int .i64] us, .sl .imm [.int .i64] ss, .int .i64 d]] [] = bif vev20_1 us ss d then bif vev20_0 us ss d != (0 : Int) then some (true, AV.int IntKind.i64 (0 : Int), []) else bif (spI g22_5 n22_5 y22_5 z22_5 d22_5 ((us, (↑us.length : Int)), (0 : Int), (0 : Int))).fst then some (true, AV.int IntKind.i64 (rev22_0 us ss d).fst, []) else none else none := by kernel_rfl
 rw [h]
 clear h
 unfold vev22_0 vev22_1
 generalize ((spI g22_5 n22_5 y22_5 z22_5 d22_5 ((us, (↑us.length : Int)), (0 : Int), (0 : Int))).fst) = c0
 generalize (vev20_0 us ss d != (0 : Int)) = c1
 generalize (vev20_1 us ss d) = c2
 cases c2
 ·skip
  rfl
 ·skip
  cases c1
  ·skip
   cases c0
   ·skip
    rfl
   ·skip
    rfl
  ·skip
   rfl
noncomputable def sp22 : List AV → List Blk → Option (Bool × AV × List Blk)
 | [.agg [.sl .imm [.int .i64] us, .sl .imm [.int .i64] ss, .int .i64 d]], [] => spW (vev22_1 us ss d) (some ((true, AV.int IntKind.i64 (vev22_0 us ss d), [])))
 | _, _ => none
noncomputable def k22 : Gam := fun f T C => match Nat.beq f 22 with
 | true => (sp22 T C).or (k20 f T C)
 | false => k20 f T C
theorem k22_ok : GamOK Try.prog k22 := by
 intro f T C r outs h
 unfold k22 at h
 cases hf : Nat.beq f 22 with
 | false => rw [hf] at h; exact k20_ok f T C r outs h
 | true =>
   have hf' := Nat.eq_of_beq_eq_true hf
   subst hf'
   rw [hf] at h
   dsimp only at h
   cases hs : sp22 T C with
   | none => rw [hs, Option.none_or] at h; exact k20_ok _ T C r outs h
   | some x =>
     rw [hs] at h
     have hx : x = (true, r, outs) := by simpa using h
     subst hx
     unfold sp22 at hs
     split at hs
     ·rename_i us ss d
      obtain ⟨hb, rfl, rfl⟩ := spT_inv hs
      have he := ev22 us ss d
      rw [hb, cond_true] at he
      obtain ⟨r0, o0, h0, he⟩ := evFin_inv he
      obtain ⟨h1, h2⟩ := fn_ok mixed plain (gk_ok k20_ok 30) Try.func22 loops22 h0
      exact ⟨h1, h2.fin he⟩
     ·cases hs
noncomputable def rev24_0 (n : Int) : Int := n * (↑(8 : Nat) : Int)
noncomputable def vev24_0 (n : Int) : List (List AV) := bif bif decide (n < (1 : Int)) then true else decide (n > (8 : Int)) then [] else List.replicate n.toNat [AV.int IntKind.i64 (0 : Int)]
noncomputable def vev24_1 (n : Int) : Int := bif bif decide (n < (1 : Int)) then true else decide (n > (8 : Int)) then (8 : Int) else (0 : Int)
noncomputable def vev24_2 (n : Int) : Bool := bif bif decide (n < (1 : Int)) then true else decide (n > (8 : Int)) then true else bif bif bif decide ((0 : Int) ≤ n) && n == n then decide (rev24_0 n ≤ (140737488355328 : Int)) else false then decide (n ≤ (9223372036854775807 : Int)) else false then true else false
theorem ev24 (n : Int) : evFin (cfg Try.prog tab 100000 (gk k22 30) noLsp 24 ([] : List Blk).length Try.f24.ntmps) ([] : List Blk).length Try.f24.resultTypes.toList Try.f24 [.int .i64 n] [] = bif vev24_2 n then some (true, AV.tup [AV.agg [AV.sl Tk.imm [Kd.int IntKind.i64] (vev24_0 n), AV.sl Tk.imm [Kd.int IntKind.i64] (vev24_0 n), AV.int IntKind.i64 (0 : Int)], AV.int IntKind.i64 (vev24_1 n)], []) else none := by
 have h : evFin (cfg Try.prog tab 100000 (gk k22 30) noLsp 24 ([] : List Blk).length Try.f24.ntmps) ([] : List Blk).length Try.f24.resultTypes.toList Try.f24 [.int .i64 n] [] = bif bif decide (n < (1 : Int)) then true else true then bif bif decide (n < (1 : Int)) then true else bif false then true else decide (n > (8 : Int)) then some (true, AV.tup [AV.agg [AV.sl Tk.imm [Kd.int IntKind.i64] [], AV.sl Tk.imm [Kd.int IntKind.i64] [], AV.int IntKind.i64 (0 : Int)], AV.int IntKind.i64 (8 : Int)], []) else bif bif bif decide ((0 : Int) ≤ n) && n == n then decide (rev24_0 n ≤ (140737488355328 : Int)) else false then decide (n ≤ (9223372036854775807 : Int)) else false then bif bif bif decide ((0 : Int) ≤ n) && n == n then decide (rev24_0 n ≤ (140737488355328 : Int)) else false then decide (n ≤ (9223372036854775807 : Int)) else false then some (true, AV.tup [AV.agg [AV.sl Tk.imm [Kd.int IntKind.i64] (List.replicate n.toNat [AV.int IntKind.i64 (0 : Int)]), AV.sl Tk.imm [Kd.int IntKind.i64] (List.replicate n.toNat [AV.int IntKind.i64 (0 : Int)]), AV.int IntKind.i64 (0 : Int)], AV.int IntKind.i64 (0 : Int)], []) else none else none else none := by kernel_rfl
 rw [h]
 clear h
 unfold vev24_0 vev24_1 vev24_2
 generalize (decide ((0 : Int) ≤ n) && n == n) = c0
 generalize (decide (rev24_0 n ≤ (140737488355328 : Int))) = c1
 generalize (decide (n ≤ (9223372036854775807 : Int))) = c2
 generalize (decide (n < (1 : Int))) = c3
 generalize (decide (n > (8 : Int))) = c4
 cases c3
 ·skip
  cases c4
  ·skip
   cases c0
   ·skip
    rfl
   ·skip
    cases c1
    ·skip
     rfl
    ·skip
     cases c2
     ·skip
      rfl
     ·skip
      rfl
  ·skip
   rfl
 ·skip
  rfl
noncomputable def sp24 : List AV → List Blk → Option (Bool × AV × List Blk)
 | [.int .i64 n], [] => spW (vev24_2 n) (some ((true, AV.tup [AV.agg [AV.sl Tk.imm [Kd.int IntKind.i64] (vev24_0 n), AV.sl Tk.imm [Kd.int IntKind.i64] (vev24_0 n), AV.int IntKind.i64 (0 : Int)], AV.int IntKind.i64 (vev24_1 n)], [])))
 | _, _ => none
noncomputable def k24 : Gam := fun f T C => match Nat.beq f 24 with
 | true => (sp24 T C).or (k22 f T C)
 | false => k22 f T C
theorem k24_ok : GamOK Try.prog k24 := by
 intro f T C r outs h
 unfold k24 at h
 cases hf : Nat.beq f 24 with
 | false => rw [hf] at h; exact k22_ok f T C r outs h
 | true =>
   have hf' := Nat.eq_of_beq_eq_true hf
   subst hf'
   rw [hf] at h
   dsimp only at h
   cases hs : sp24 T C with
   | none => rw [hs, Option.none_or] at h; exact k22_ok _ T C r outs h
   | some x =>
     rw [hs] at h
     have hx : x = (true, r, outs) := by simpa using h
     subst hx
     unfold sp24 at hs
     split at hs
     ·rename_i n
      obtain ⟨hb, rfl, rfl⟩ := spT_inv hs
      have he := ev24 n
      rw [hb, cond_true] at he
      obtain ⟨r0, o0, h0, he⟩ := evFin_inv he
      obtain ⟨h1, h2⟩ := fn_ok mixed plain (gk_ok k22_ok 30) Try.func24 (fun c _ => LoopsOK.none (fun _ _ => rfl) c) h0
      exact ⟨h1, h2.fin he⟩
     ·cases hs
noncomputable def go60_4 (t0 : List (List AV)) (t1 : List (List AV)) (t12 : Int) (t13 : Int) : Bool := bif decide (t13 < t12) then bif decide ((0 : Int) ≤ t13) && decide (t13 < (↑t0.length : Int)) then bif decide ((0 : Int) ≤ t13) && decide (t13 < (↑t1.length : Int)) then bif intOf ((t0.getD t13.toNat []).getD (0 : Nat) AV.junk) != intOf ((t1.getD t13.toNat []).getD (0 : Nat) AV.junk) then false else true else false else false else false
noncomputable def nx60_4_3 (t0 : List (List AV)) (t1 : List (List AV)) (t12 : Int) (t13 : Int) : Int := IntKind.i64.wrap (t13 + (1 : Int))
noncomputable def xc60_4_0 (t0 : List (List AV)) (t1 : List (List AV)) (t12 : Int) (t13 : Int) : Bool := bif decide (t13 < t12) then bif decide ((0 : Int) ≤ t13) && decide (t13 < (↑t0.length : Int)) then bif decide ((0 : Int) ≤ t13) && decide (t13 < (↑t1.length : Int)) then intOf ((t0.getD t13.toNat []).getD (0 : Nat) AV.junk) != intOf ((t1.getD t13.toNat []).getD (0 : Nat) AV.junk) else false else false else false
noncomputable def xc60_4_1 (t0 : List (List AV)) (t1 : List (List AV)) (t12 : Int) (t13 : Int) : Bool := bif decide (t13 < t12) then false else true
theorem rd60_4 (rest : Lsp) (t0 : List (List AV)) (t1 : List (List AV)) (t12 : Int) (t13 : Int) : roundV (cfg Try.prog tab 100000 (gk k24 30) rest 60 0 Try.f60.ntmps) (loopAt Try.f60 4) [0, 1, 12, 13] [] [4] [] [AV.sl Tk.imm [Kd.int IntKind.i64] t0, AV.sl Tk.imm [Kd.int IntKind.i64] t1, AV.int IntKind.i64 t12, AV.int IntKind.i64 t13] [] = bif go60_4 t0 t1 t12 t13 then some (Ex.norm, [AV.sl Tk.imm [Kd.int IntKind.i64] t0, AV.sl Tk.imm [Kd.int IntKind.i64] t1, AV.int IntKind.i64 t12, AV.int IntKind.i64 (nx60_4_3 t0 t1 t12 t13)], []) else bif xc60_4_0 t0 t1 t12 t13 then some (Ex.ret, [AV.bool false], []) else bif xc60_4_1 t0 t1 t12 t13 then some (Ex.exit (nat_lit 0), [AV.junk], []) else none := by
 have h : roundV (cfg Try.prog tab 100000 (gk k24 30) rest 60 0 Try.f60.ntmps) (loopAt Try.f60 4) [0, 1, 12, 13] [] [4] [] [AV.sl Tk.imm [Kd.int IntKind.i64] t0, AV.sl Tk.imm [Kd.int IntKind.i64] t1, AV.int IntKind.i64 t12, AV.int IntKind.i64 t13] [] = bif decide (t13 < t12) then bif decide ((0 : Int) ≤ t13) && decide (t13 < (↑t0.length : Int)) then bif decide ((0 : Int) ≤ t13) && decide (t13 < (↑t1.length : Int)) then bif intOf ((t0.getD t13.toNat []).getD (0 : Nat) AV.junk) != intOf ((t1.getD t13.toNat []).getD (0 : Nat) AV.junk) then some (Ex.ret, [AV.bool false], []) else some (Ex.norm, [AV.sl Tk.imm [Kd.int IntKind.i64] t0, AV.sl Tk.imm [Kd.int IntKind.i64] t1, AV.int IntKind.i64 t12, AV.int IntKind.i64 (IntKind.i64.wrap (t13 + (1 : Int)))], []) else none else none else some (Ex.exit (nat_lit 0), [AV.junk], []) := by kernel_rfl
 rw [h]
 clear h
 unfold go60_4 nx60_4_3 xc60_4_0 xc60_4_1
 generalize (intOf ((t0.getD t13.toNat []).getD (0 : Nat) AV.junk) != intOf ((t1.getD t13.toNat []).getD (0 : Nat) AV.junk)) = c0
 generalize (decide ((0 : Int) ≤ t13) && decide (t13 < (↑t0.length : Int))) = c1
 generalize (decide ((0 : Int) ≤ t13) && decide (t13 < (↑t1.length : Int))) = c2
 generalize (decide (t13 < t12)) = c3
 cases c3
 ·skip
  rfl
 ·skip
  cases c1
  ·skip
   rfl
  ·skip
   cases c2
   ·skip
    rfl
   ·skip
    cases c0
    ·skip
     rfl
    ·skip
     rfl
abbrev pl60_4 : Type := (List (List AV)) × (List (List AV)) × Int
abbrev sl60_4 : Type := Int
noncomputable def vt60_4 (a : pl60_4 × sl60_4) : List AV := [AV.sl Tk.imm [Kd.int IntKind.i64] a.1.1, AV.sl Tk.imm [Kd.int IntKind.i64] a.1.2.1, AV.int IntKind.i64 a.1.2.2, AV.int IntKind.i64 a.2]
noncomputable def vc60_4 (a : pl60_4 × sl60_4) : List Blk := []
noncomputable def de60_4 (vt : List AV) (vc : List Blk) : Option (pl60_4 × sl60_4) :=
 match vt with
 | [qa0, qa1, qa2, qa3] => (match vc with
 | [] => (match qa0 with
 | AV.sl Tk.imm [Kd.int IntKind.i64] t0 => (match qa1 with
 | AV.sl Tk.imm [Kd.int IntKind.i64] t1 => (match qa2 with
 | AV.int IntKind.i64 t12 => (match qa3 with
 | AV.int IntKind.i64 t13 => (some ((t0, t1, t12), t13))
 | _ => none)
 | _ => none)
 | _ => none)
 | _ => none)
 | _ => none)
 | _ => none
theorem de60_4_ok (vt : List AV) (vc : List Blk) (a : pl60_4 × sl60_4) (h : de60_4 vt vc = some a) : vt = vt60_4 a ∧ vc = vc60_4 a := by
 unfold de60_4 at h
 split at h
 rotate_left
 ·cases h
 split at h
 rotate_left
 ·cases h
 split at h
 rotate_left
 ·cases h
 split at h
 rotate_left
 ·cases h
 split at h
 rotate_left
 ·cases h
 split at h
 rotate_left
 ·cases h
 injection h with h
 subst h
 exact ⟨rfl, rfl⟩
noncomputable def g60_4 (p : pl60_4) (s : sl60_4) : Bool := go60_4 p.1 p.2.1 p.2.2 s
noncomputable def n60_4 (p : pl60_4) (s : sl60_4) : sl60_4 := nx60_4_3 p.1 p.2.1 p.2.2 s
noncomputable def y60_4 (p : pl60_4) (s : sl60_4) : List (Bool × Out) := [(xc60_4_0 p.1 p.2.1 p.2.2 s, (Ex.ret, [AV.bool false], []))]
noncomputable def z60_4 (p : pl60_4) (s : sl60_4) : Bool := xc60_4_1 p.1 p.2.1 p.2.2 s
noncomputable def d60_4 (p : pl60_4) (s : sl60_4) : Out := (Ex.exit (nat_lit 0), [AV.junk], [])
noncomputable def ls60_4 : St → Option (Bool × List (Bool × Ex × St) × Ex × St) := lspOf [0, 1, 12, 13] [] [4] [] Try.f60.ntmps (0 + tab.nid 60) de60_4 (spI g60_4 n60_4 y60_4 z60_4 d60_4)
theorem lo60_4 (rest : Lsp) : LoopOK1 (cfg Try.prog tab 100000 (gk k24 30) (selL 4 ls60_4 rest) 60 0 Try.f60.ntmps) (loopAt Try.f60 4) := LoopOK1.iter (i := 4) (by kernel_rfl) [0, 1, 12, 13] [] [4] [] vt60_4 vc60_4 de60_4 g60_4 n60_4 y60_4 z60_4 d60_4 (fun _ => rfl) de60_4_ok (fun p s => rd60_4 (selL 4 ls60_4 rest) (p.1) (p.2.1) (p.2.2) s) (fun _ _ => rfl)
noncomputable def lsp60 : Lsp := (selL 4 ls60_4 noLsp)
theorem loops60 : ∀ c, Try.f60.body = some c → LoopsOK (cfg Try.prog tab 100000 (gk k24 30) lsp60 60 0 Try.f60.ntmps) c := loops_of [4] (by kernel_rfl) (by kernel_rfl) (fun i hi => by
 simp only [List.mem_cons, List.not_mem_nil, or_false] at hi
 subst hi
 ·exact lo60_4 noLsp)
noncomputable def rev60_0 (a : List (List AV)) (b : List (List AV)) : sl60_4 := finL (g60_4 (a, b, (↑a.length : Int))) (n60_4 (a, b, (↑a.length : Int))) (0 : Int)
noncomputable def vev60_0 (a : List (List AV)) (b : List (List AV)) : Bool := bif (↑a.length : Int) != (↑b.length : Int) then false else bif xc60_4_0 a b (↑a.length : Int) (rev60_0 a b) then false else true
noncomputable def vev60_1 (a : List (List AV)) (b : List (List AV)) : Bool := bif (↑a.length : Int) != (↑b.length : Int) then true else bif (spI g60_4 n60_4 y60_4 z60_4 d60_4 ((a, b, (↑a.length : Int)), (0 : Int))).fst then true else false
theorem ev60 (a : List (List AV)) (b : List (List AV)) : evFin (cfg Try.prog tab 100000 (gk k24 30) lsp60 60 ([] : List Blk).length Try.f60.ntmps) ([] : List Blk).length Try.f60.resultTypes.toList Try.f60 [.sl .imm [.int .i64] a, .sl .imm [.int .i64] b] [] = bif vev60_1 a b then some (true, AV.bool (vev60_0 a b), []) else none := by
 have h : evFin (cfg Try.prog tab 100000 (gk k24 30) lsp60 60 ([] : List Blk).length Try.f60.ntmps) ([] : List Blk).length Try.f60.resultTypes.toList Try.f60 [.sl .imm [.int .i64] a, .sl .imm [.int .i64] b] [] = bif (↑a.length : Int) != (↑b.length : Int) then some (true, AV.bool false, []) else bif (spI g60_4 n60_4 y60_4 z60_4 d60_4 ((a, b, (↑a.length : Int)), (0 : Int))).fst then bif xc60_4_0 a b (↑a.length : Int) (rev60_0 a b) then some (true, AV.bool false, []) else some (true, AV.bool true, []) else none := by kernel_rfl
 rw [h]
 clear h
 unfold vev60_0 vev60_1
 generalize ((spI g60_4 n60_4 y60_4 z60_4 d60_4 ((a, b, (↑a.length : Int)), (0 : Int))).fst) = c0
 generalize ((↑a.length : Int) != (↑b.length : Int)) = c1
 generalize (xc60_4_0 a b (↑a.length : Int) (rev60_0 a b)) = c2
 cases c1
 ·skip
  cases c0
  ·skip
   rfl
  ·skip
   cases c2
   ·skip
    rfl
   ·skip
    rfl
 ·skip
  rfl
noncomputable def sp60 : List AV → List Blk → Option (Bool × AV × List Blk)
 | [.sl .imm [.int .i64] a, .sl .imm [.int .i64] b], [] => spW (vev60_1 a b) (some ((true, AV.bool (vev60_0 a b), [])))
 | _, _ => none
noncomputable def k60 : Gam := fun f T C => match Nat.beq f 60 with
 | true => (sp60 T C).or (k24 f T C)
 | false => k24 f T C
theorem k60_ok : GamOK Try.prog k60 := by
 intro f T C r outs h
 unfold k60 at h
 cases hf : Nat.beq f 60 with
 | false => rw [hf] at h; exact k24_ok f T C r outs h
 | true =>
   have hf' := Nat.eq_of_beq_eq_true hf
   subst hf'
   rw [hf] at h
   dsimp only at h
   cases hs : sp60 T C with
   | none => rw [hs, Option.none_or] at h; exact k24_ok _ T C r outs h
   | some x =>
     rw [hs] at h
     have hx : x = (true, r, outs) := by simpa using h
     subst hx
     unfold sp60 at hs
     split at hs
     ·rename_i a b
      obtain ⟨hb, rfl, rfl⟩ := spT_inv hs
      have he := ev60 a b
      rw [hb, cond_true] at he
      obtain ⟨r0, o0, h0, he⟩ := evFin_inv he
      obtain ⟨h1, h2⟩ := fn_ok mixed plain (gk_ok k24_ok 30) Try.func60 loops60 h0
      exact ⟨h1, h2.fin he⟩
     ·cases hs
noncomputable def vev25_0 (us : List (List AV)) (ss : List (List AV)) (d : Int) (us2 : List (List AV)) (ss2 : List (List AV)) (d2 : Int) : Bool := bif d == d2 then bif vev60_1 us us2 then bif bif true then vev60_0 us us2 else false then bif vev60_1 ss ss2 then bif true then vev60_0 ss ss2 else false else false else false else false else false
noncomputable def vev25_1 (us : List (List AV)) (ss : List (List AV)) (d : Int) (us2 : List (List AV)) (ss2 : List (List AV)) (d2 : Int) : Bool := bif bif d == d2 then bif vev60_1 us us2 then bif vev60_0 us us2 then vev60_1 ss ss2 else true else false else true then true else false
theorem ev25 (us : List (List AV)) (ss : List (List AV)) (d : Int) (us2 : List (List AV)) (ss2 : List (List AV)) (d2 : Int) : evFin (cfg Try.prog tab 100000 (gk k60 30) noLsp 25 ([] : List Blk).length Try.f25.ntmps) ([] : List Blk).length Try.f25.resultTypes.toList Try.f25 [.agg [.sl .imm [.int .i64] us, .sl .imm [.int .i64] ss, .int .i64 d], .agg [.sl .imm [.int .i64] us2, .sl .imm [.int .i64] ss2, .int .i64 d2]] [] = bif vev25_1 us ss d us2 ss2 d2 then some (true, AV.bool (vev25_0 us ss d us2 ss2 d2), []) else none := by
 have h : evFin (cfg Try.prog tab 100000 (gk k60 30) noLsp 25 ([] : List Blk).length Try.f25.ntmps) ([] : List Blk).length Try.f25.resultTypes.toList Try.f25 [.agg [.sl .imm [.int .i64] us, .sl .imm [.int .i64] ss, .int .i64 d], .agg [.sl .imm [.int .i64] us2, .sl .imm [.int .i64] ss2, .int .i64 d2]] [] = bif bif d == d2 then bif vev60_1 us us2 then bif bif true then vev60_0 us us2 else false then bif vev60_1 ss ss2 then true else false else true else false else true then some (true, AV.bool (bif d == d2 then bif vev60_1 us us2 then bif bif true then vev60_0 us us2 else false then bif vev60_1 ss ss2 then bif true then vev60_0 ss ss2 else false else false else false else false else false), []) else none := by kernel_rfl
 rw [h]
 clear h
 unfold vev25_0 vev25_1
 generalize (d == d2) = c0
 generalize (vev60_1 ss ss2) = c1
 generalize (vev60_1 us us2) = c2
 generalize (vev60_0 us us2) = c3
 cases c0
 ·skip
  rfl
 ·skip
  cases c2
  ·skip
   rfl
  ·skip
   cases c3
   ·skip
    rfl
   ·skip
    cases c1
    ·skip
     rfl
    ·skip
     rfl
noncomputable def sp25 : List AV → List Blk → Option (Bool × AV × List Blk)
 | [.agg [.sl .imm [.int .i64] us, .sl .imm [.int .i64] ss, .int .i64 d], .agg [.sl .imm [.int .i64] us2, .sl .imm [.int .i64] ss2, .int .i64 d2]], [] => spW (vev25_1 us ss d us2 ss2 d2) (some ((true, AV.bool (vev25_0 us ss d us2 ss2 d2), [])))
 | _, _ => none
noncomputable def k25 : Gam := fun f T C => match Nat.beq f 25 with
 | true => (sp25 T C).or (k60 f T C)
 | false => k60 f T C
theorem k25_ok : GamOK Try.prog k25 := by
 intro f T C r outs h
 unfold k25 at h
 cases hf : Nat.beq f 25 with
 | false => rw [hf] at h; exact k60_ok f T C r outs h
 | true =>
   have hf' := Nat.eq_of_beq_eq_true hf
   subst hf'
   rw [hf] at h
   dsimp only at h
   cases hs : sp25 T C with
   | none => rw [hs, Option.none_or] at h; exact k60_ok _ T C r outs h
   | some x =>
     rw [hs] at h
     have hx : x = (true, r, outs) := by simpa using h
     subst hx
     unfold sp25 at hs
     split at hs
     ·rename_i us ss d us2 ss2 d2
      obtain ⟨hb, rfl, rfl⟩ := spT_inv hs
      have he := ev25 us ss d us2 ss2 d2
      rw [hb, cond_true] at he
      obtain ⟨r0, o0, h0, he⟩ := evFin_inv he
      obtain ⟨h1, h2⟩ := fn_ok mixed plain (gk_ok k60_ok 30) Try.func25 (fun c _ => LoopsOK.none (fun _ _ => rfl) c) h0
      exact ⟨h1, h2.fin he⟩
     ·cases hs
noncomputable def rev76_0 (us : List (List AV)) (ss : List (List AV)) (d : Int) (w : Int) : Int := intOf ((us.getD w.toNat []).getD (0 : Nat) AV.junk)
noncomputable def vev76_0 (us : List (List AV)) (ss : List (List AV)) (d : Int) (w : Int) : Bool := bif vev20_1 us ss d then bif vev20_0 us ss d == (0 : Int) then bif bif true then decide (w ≥ (0 : Int)) else false then bif bif true then decide (w < (↑us.length : Int)) else false then bif decide ((0 : Int) ≤ w) && decide (w < (↑us.length : Int)) then bif true then decide (rev76_0 us ss d w ≤ (1099511626776 : Int)) else false else false else false else false else false else false
noncomputable def vev76_1 (us : List (List AV)) (ss : List (List AV)) (d : Int) (w : Int) : Bool := bif bif vev20_1 us ss d then bif vev20_0 us ss d == (0 : Int) then bif decide (w ≥ (0 : Int)) then bif decide (w < (↑us.length : Int)) then decide ((0 : Int) ≤ w) && decide (w < (↑us.length : Int)) else true else true else true else false then true else false
theorem ev76 (us : List (List AV)) (ss : List (List AV)) (d : Int) (w : Int) : evFin (cfg Try.prog tab 100000 (gk k25 30) noLsp 76 ([] : List Blk).length Try.f76.ntmps) ([] : List Blk).length Try.f76.resultTypes.toList Try.f76 [.agg [.sl .imm [.int .i64] us, .sl .imm [.int .i64] ss, .int .i64 d], .int .i64 w] [] = bif vev76_1 us ss d w then some (true, AV.bool (vev76_0 us ss d w), []) else none := by
 have h : evFin (cfg Try.prog tab 100000 (gk k25 30) noLsp 76 ([] : List Blk).length Try.f76.ntmps) ([] : List Blk).length Try.f76.resultTypes.toList Try.f76 [.agg [.sl .imm [.int .i64] us, .sl .imm [.int .i64] ss, .int .i64 d], .int .i64 w] [] = bif bif vev20_1 us ss d then bif vev20_0 us ss d == (0 : Int) then bif bif true then decide (w ≥ (0 : Int)) else false then bif bif true then decide (w < (↑us.length : Int)) else false then bif decide ((0 : Int) ≤ w) && decide (w < (↑us.length : Int)) then true else false else true else true else true else false then some (true, AV.bool (bif vev20_1 us ss d then bif vev20_0 us ss d == (0 : Int) then bif bif true then decide (w ≥ (0 : Int)) else false then bif bif true then decide (w < (↑us.length : Int)) else false then bif decide ((0 : Int) ≤ w) && decide (w < (↑us.length : Int)) then bif true then decide (rev76_0 us ss d w ≤ (1099511626776 : Int)) else false else false else false else false else false else false), []) else none := by kernel_rfl
 rw [h]
 clear h
 unfold vev76_0 vev76_1
 generalize (decide ((0 : Int) ≤ w) && decide (w < (↑us.length : Int))) = c0
 generalize (decide (w < (↑us.length : Int))) = c1
 generalize (decide (w ≥ (0 : Int))) = c2
 generalize (vev20_0 us ss d == (0 : Int)) = c3
 generalize (vev20_1 us ss d) = c4
 cases c4
 ·skip
  rfl
 ·skip
  cases c3
  ·skip
   rfl
  ·skip
   cases c2
   ·skip
    rfl
   ·skip
    cases c1
    ·skip
     rfl
    ·skip
     cases c0
     ·skip
      rfl
     ·skip
      rfl
noncomputable def sp76 : List AV → List Blk → Option (Bool × AV × List Blk)
 | [.agg [.sl .imm [.int .i64] us, .sl .imm [.int .i64] ss, .int .i64 d], .int .i64 w], [] => spW (vev76_1 us ss d w) (some ((true, AV.bool (vev76_0 us ss d w), [])))
 | _, _ => none
noncomputable def k76 : Gam := fun f T C => match Nat.beq f 76 with
 | true => (sp76 T C).or (k25 f T C)
 | false => k25 f T C
theorem k76_ok : GamOK Try.prog k76 := by
 intro f T C r outs h
 unfold k76 at h
 cases hf : Nat.beq f 76 with
 | false => rw [hf] at h; exact k25_ok f T C r outs h
 | true =>
   have hf' := Nat.eq_of_beq_eq_true hf
   subst hf'
   rw [hf] at h
   dsimp only at h
   cases hs : sp76 T C with
   | none => rw [hs, Option.none_or] at h; exact k25_ok _ T C r outs h
   | some x =>
     rw [hs] at h
     have hx : x = (true, r, outs) := by simpa using h
     subst hx
     unfold sp76 at hs
     split at hs
     ·rename_i us ss d w
      obtain ⟨hb, rfl, rfl⟩ := spT_inv hs
      have he := ev76 us ss d w
      rw [hb, cond_true] at he
      obtain ⟨r0, o0, h0, he⟩ := evFin_inv he
      obtain ⟨h1, h2⟩ := fn_ok mixed plain (gk_ok k25_ok 30) Try.func76 (fun c _ => LoopsOK.none (fun _ _ => rfl) c) h0
      exact ⟨h1, h2.fin he⟩
     ·cases hs
noncomputable def vev56_0 (us : List (List AV)) (ss : List (List AV)) (d : Int) : Bool := bif (us.length * (8 : Nat)).ble (140737488355328 : Nat) then bif (ss.length * (8 : Nat)).ble (140737488355328 : Nat) then true else false else false
theorem ev56 (us : List (List AV)) (ss : List (List AV)) (d : Int) : evFun (cfg Try.prog tab 100000 (gk k76 30) noLsp 56 ([] : List Blk).length Try.f56.ntmps) Try.f56 [.agg [.sl .imm [.int .i64] us, .sl .imm [.int .i64] ss, .int .i64 d]] [] = bif vev56_0 us ss d then some (AV.agg [AV.rf (nat_lit 0) [Kd.int IntKind.i64], AV.rf (nat_lit 1) [Kd.int IntKind.i64], AV.int IntKind.i64 d], [Blk.row [Kd.int IntKind.i64] us, Blk.row [Kd.int IntKind.i64] ss]) else none := by
 have h : evFun (cfg Try.prog tab 100000 (gk k76 30) noLsp 56 ([] : List Blk).length Try.f56.ntmps) Try.f56 [.agg [.sl .imm [.int .i64] us, .sl .imm [.int .i64] ss, .int .i64 d]] [] = bif (us.length * (8 : Nat)).ble (140737488355328 : Nat) then bif (ss.length * (8 : Nat)).ble (140737488355328 : Nat) then some (AV.agg [AV.rf (nat_lit 0) [Kd.int IntKind.i64], AV.rf (nat_lit 1) [Kd.int IntKind.i64], AV.int IntKind.i64 d], [Blk.row [Kd.int IntKind.i64] us, Blk.row [Kd.int IntKind.i64] ss]) else none else none := by kernel_rfl
 rw [h]
 clear h
 unfold vev56_0
 generalize ((ss.length * (8 : Nat)).ble (140737488355328 : Nat)) = c0
 generalize ((us.length * (8 : Nat)).ble (140737488355328 : Nat)) = c1
 cases c1
 ·skip
  rfl
 ·skip
  cases c0
  ·skip
   rfl
  ·skip
   rfl
noncomputable def sp56 : List AV → List Blk → Option (Bool × AV × List Blk)
 | [.agg [.sl .imm [.int .i64] us, .sl .imm [.int .i64] ss, .int .i64 d]], [] => spW (vev56_0 us ss d) (fin Try.prog (tab.frz 56) ([] : List Blk).length Try.f56.resultTypes.toList (some ((AV.agg [AV.rf (nat_lit 0) [Kd.int IntKind.i64], AV.rf (nat_lit 1) [Kd.int IntKind.i64], AV.int IntKind.i64 d], [Blk.row [Kd.int IntKind.i64] us, Blk.row [Kd.int IntKind.i64] ss]))))
 | _, _ => none
noncomputable def k56 : Gam := fun f T C => match Nat.beq f 56 with
 | true => (sp56 T C).or (k76 f T C)
 | false => k76 f T C
theorem k56_ok : GamOK Try.prog k56 := by
 intro f T C r outs h
 unfold k56 at h
 cases hf : Nat.beq f 56 with
 | false => rw [hf] at h; exact k76_ok f T C r outs h
 | true =>
   have hf' := Nat.eq_of_beq_eq_true hf
   subst hf'
   rw [hf] at h
   dsimp only at h
   cases hs : sp56 T C with
   | none => rw [hs, Option.none_or] at h; exact k76_ok _ T C r outs h
   | some x =>
     rw [hs] at h
     have hx : x = (true, r, outs) := by simpa using h
     subst hx
     unfold sp56 at hs
     split at hs
     ·rename_i us ss d
      obtain ⟨hb, hs⟩ := spW_inv hs
      have he := ev56 us ss d
      rw [hb, cond_true] at he
      obtain ⟨h1, h2⟩ := fn_ok mixed plain (gk_ok k76_ok 30) Try.func56 (fun c _ => LoopsOK.none (fun _ _ => rfl) c) he
      exact ⟨h1, h2.fin hs⟩
     ·cases hs
theorem ev31n : evFin (cfg Try.prog tab 100000 (gk k56 30) noLsp 31 ([] : List Blk).length Try.f31.ntmps) ([] : List Blk).length Try.f31.resultTypes.toList Try.f31 [.nilp] [] = some (true, AV.tup [AV.agg [AV.int IntKind.i64 (0 : Int), AV.int IntKind.i64 (0 : Int), AV.int IntKind.i64 (0 : Int), AV.int IntKind.i64 (0 : Int)], AV.bool false], []) := by kernel_rfl
noncomputable def sp31n : List AV → List Blk → Option (Bool × AV × List Blk)
 | [.nilp], [] => spW (true) (some ((true, AV.tup [AV.agg [AV.int IntKind.i64 (0 : Int), AV.int IntKind.i64 (0 : Int), AV.int IntKind.i64 (0 : Int), AV.int IntKind.i64 (0 : Int)], AV.bool false], [])))
 | _, _ => none
noncomputable def k31n : Gam := fun f T C => match Nat.beq f 31 with
 | true => (sp31n T C).or (k56 f T C)
 | false => k56 f T C
theorem k31n_ok : GamOK Try.prog k31n := by
 intro f T C r outs h
 unfold k31n at h
 cases hf : Nat.beq f 31 with
 | false => rw [hf] at h; exact k56_ok f T C r outs h
 | true =>
   have hf' := Nat.eq_of_beq_eq_true hf
   subst hf'
   rw [hf] at h
   dsimp only at h
   cases hs : sp31n T C with
   | none => rw [hs, Option.none_or] at h; exact k56_ok _ T C r outs h
   | some x =>
     rw [hs] at h
     have hx : x = (true, r, outs) := by simpa using h
     subst hx
     unfold sp31n at hs
     split at hs
     ·obtain ⟨hb, rfl, rfl⟩ := spT_inv hs
      have he := ev31n
      obtain ⟨r0, o0, h0, he⟩ := evFin_inv he
      obtain ⟨h1, h2⟩ := fn_ok mixed plain (gk_ok k56_ok 30) Try.func31 (fun c _ => LoopsOK.none (fun _ _ => rfl) c) h0
      exact ⟨h1, h2.fin he⟩
     ·cases hs
noncomputable def rev39n_0 (us : List (List AV)) (ss : List (List AV)) (d : Int) (w : Int) : Int := IntKind.i64.wrap (d + (1 : Int))
noncomputable def vev39n_0 (us : List (List AV)) (ss : List (List AV)) (d : Int) (w : Int) : Int := bif !vev76_0 us ss d w then d else if if false = true then rev39n_0 us ss d w < (1099511627776 : Int) else (1099511627776 : Int) < rev39n_0 us ss d w then (1099511627776 : Int) else rev39n_0 us ss d w
noncomputable def vev39n_1 (us : List (List AV)) (ss : List (List AV)) (d : Int) (w : Int) : Bool := bif vev56_0 us ss d then bif vev76_1 us ss d w then true else false else false
theorem ev39n (us : List (List AV)) (ss : List (List AV)) (d : Int) (w : Int) : evFin (cfg Try.prog tab 100000 (gk k31n 30) noLsp 39 ([] : List Blk).length Try.f39.ntmps) ([] : List Blk).length Try.f39.resultTypes.toList Try.f39 [.agg [.sl .imm [.int .i64] us, .sl .imm [.int .i64] ss, .int .i64 d], .nilp, .int .i64 w] [] = bif vev39n_1 us ss d w then some (true, AV.tup [AV.agg [AV.sl Tk.imm [Kd.int IntKind.i64] us, AV.sl Tk.imm [Kd.int IntKind.i64] ss, AV.int IntKind.i64 (vev39n_0 us ss d w)], AV.agg [AV.int IntKind.i64 (0 : Int), AV.int IntKind.i64 (0 : Int), AV.int IntKind.i64 (0 : Int), AV.int IntKind.i64 (0 : Int)], AV.bool false], []) else none := by
 have h : evFin (cfg Try.prog tab 100000 (gk k31n 30) noLsp 39 ([] : List Blk).length Try.f39.ntmps) ([] : List Blk).length Try.f39.resultTypes.toList Try.f39 [.agg [.sl .imm [.int .i64] us, .sl .imm [.int .i64] ss, .int .i64 d], .nilp, .int .i64 w] [] = bif vev56_0 us ss d then bif vev76_1 us ss d w then bif !vev76_0 us ss d w then some (true, AV.tup [AV.agg [AV.sl Tk.imm [Kd.int IntKind.i64] us, AV.sl Tk.imm [Kd.int IntKind.i64] ss, AV.int IntKind.i64 d], AV.agg [AV.int IntKind.i64 (0 : Int), AV.int IntKind.i64 (0 : Int), AV.int IntKind.i64 (0 : Int), AV.int IntKind.i64 (0 : Int)], AV.bool false], []) else some (true, AV.tup [AV.agg [AV.sl Tk.imm [Kd.int IntKind.i64] us, AV.sl Tk.imm [Kd.int IntKind.i64] ss, AV.int IntKind.i64 (if if false = true then rev39n_0 us ss d w < (1099511627776 : Int) else (1099511627776 : Int) < rev39n_0 us ss d w then (1099511627776 : Int) else rev39n_0 us ss d w)], AV.agg [AV.int IntKind.i64 (0 : Int), AV.int IntKind.i64 (0 : Int), AV.int IntKind.i64 (0 : Int), AV.int IntKind.i64 (0 : Int)], AV.bool false], []) else none else none := by kernel_rfl
 rw [h]
 clear h
 unfold vev39n_0 vev39n_1
 generalize (!vev76_0 us ss d w) = c0
 generalize (vev76_1 us ss d w) = c1
 generalize (vev56_0 us ss d) = c2
 cases c2
 ·skip
  rfl
 ·skip
  cases c1
  ·skip
   rfl
  ·skip
   cases c0
   ·skip
    rfl
   ·skip
    rfl
noncomputable def sp39n : List AV → List Blk → Option (Bool × AV × List Blk)
 | [.agg [.sl .imm [.int .i64] us, .sl .imm [.int .i64] ss, .int .i64 d], .nilp, .int .i64 w], [] => spW (vev39n_1 us ss d w) (some ((true, AV.tup [AV.agg [AV.sl Tk.imm [Kd.int IntKind.i64] us, AV.sl Tk.imm [Kd.int IntKind.i64] ss, AV.int IntKind.i64 (vev39n_0 us ss d w)], AV.agg [AV.int IntKind.i64 (0 : Int), AV.int IntKind.i64 (0 : Int), AV.int IntKind.i64 (0 : Int), AV.int IntKind.i64 (0 : Int)], AV.bool false], [])))
 | _, _ => none
noncomputable def k39n : Gam := fun f T C => match Nat.beq f 39 with
 | true => (sp39n T C).or (k31n f T C)
 | false => k31n f T C
theorem k39n_ok : GamOK Try.prog k39n := by
 intro f T C r outs h
 unfold k39n at h
 cases hf : Nat.beq f 39 with
 | false => rw [hf] at h; exact k31n_ok f T C r outs h
 | true =>
   have hf' := Nat.eq_of_beq_eq_true hf
   subst hf'
   rw [hf] at h
   dsimp only at h
   cases hs : sp39n T C with
   | none => rw [hs, Option.none_or] at h; exact k31n_ok _ T C r outs h
   | some x =>
     rw [hs] at h
     have hx : x = (true, r, outs) := by simpa using h
     subst hx
     unfold sp39n at hs
     split at hs
     ·rename_i us ss d w
      obtain ⟨hb, rfl, rfl⟩ := spT_inv hs
      have he := ev39n us ss d w
      rw [hb, cond_true] at he
      obtain ⟨r0, o0, h0, he⟩ := evFin_inv he
      obtain ⟨h1, h2⟩ := fn_ok mixed plain (gk_ok k31n_ok 30) Try.func39 (fun c _ => LoopsOK.none (fun _ _ => rfl) c) h0
      exact ⟨h1, h2.fin he⟩
     ·cases hs
noncomputable def rev39_0 (us : List (List AV)) (ss : List (List AV)) (d : Int) (w : Int) (q : Int) (lim : Int) (t : Int) (k : Int) (order : List (List AV)) (es : List (List AV)) (ready : List (List AV)) : Int := IntKind.i64.wrap (d + (1 : Int))
noncomputable def rev39_1 (us : List (List AV)) (ss : List (List AV)) (d : Int) (w : Int) (q : Int) (lim : Int) (t : Int) (k : Int) (order : List (List AV)) (es : List (List AV)) (ready : List (List AV)) : Int := vev31_2 q lim t k order es ready
noncomputable def vev39_0 (us : List (List AV)) (ss : List (List AV)) (d : Int) (w : Int) (q : Int) (lim : Int) (t : Int) (k : Int) (order : List (List AV)) (es : List (List AV)) (ready : List (List AV)) : List (List AV) := bif !vev76_0 us ss d w then us else bif !vev31_4 q lim t k order es ready then us else us.set w.toNat [AV.int IntKind.i64 (IntKind.i64.wrap (intOf ((us.getD w.toNat []).getD (0 : Nat) AV.junk) + rev39_1 us ss d w q lim t k order es ready))]
noncomputable def vev39_1 (us : List (List AV)) (ss : List (List AV)) (d : Int) (w : Int) (q : Int) (lim : Int) (t : Int) (k : Int) (order : List (List AV)) (es : List (List AV)) (ready : List (List AV)) : List (List AV) := bif !vev76_0 us ss d w then ss else bif !vev31_4 q lim t k order es ready then ss else ss.set w.toNat [AV.int IntKind.i64 (IntKind.i64.wrap (intOf ((ss.getD w.toNat []).getD (0 : Nat) AV.junk) + (1 : Int)))]
noncomputable def vev39_2 (us : List (List AV)) (ss : List (List AV)) (d : Int) (w : Int) (q : Int) (lim : Int) (t : Int) (k : Int) (order : List (List AV)) (es : List (List AV)) (ready : List (List AV)) : Int := bif !vev76_0 us ss d w then d else bif !vev31_4 q lim t k order es ready then if if false = true then rev39_0 us ss d w q lim t k order es ready < (1099511627776 : Int) else (1099511627776 : Int) < rev39_0 us ss d w q lim t k order es ready then (1099511627776 : Int) else rev39_0 us ss d w q lim t k order es ready else d
noncomputable def vev39_3 (us : List (List AV)) (ss : List (List AV)) (d : Int) (w : Int) (q : Int) (lim : Int) (t : Int) (k : Int) (order : List (List AV)) (es : List (List AV)) (ready : List (List AV)) : Int := bif !vev76_0 us ss d w then (0 : Int) else bif !vev31_4 q lim t k order es ready then (0 : Int) else vev31_0 q lim t k order es ready
noncomputable def vev39_4 (us : List (List AV)) (ss : List (List AV)) (d : Int) (w : Int) (q : Int) (lim : Int) (t : Int) (k : Int) (order : List (List AV)) (es : List (List AV)) (ready : List (List AV)) : Int := bif !vev76_0 us ss d w then (0 : Int) else bif !vev31_4 q lim t k order es ready then (0 : Int) else vev31_1 q lim t k order es ready
noncomputable def vev39_5 (us : List (List AV)) (ss : List (List AV)) (d : Int) (w : Int) (q : Int) (lim : Int) (t : Int) (k : Int) (order : List (List AV)) (es : List (List AV)) (ready : List (List AV)) : Int := bif !vev76_0 us ss d w then (0 : Int) else bif !vev31_4 q lim t k order es ready then (0 : Int) else rev39_1 us ss d w q lim t k order es ready
noncomputable def vev39_6 (us : List (List AV)) (ss : List (List AV)) (d : Int) (w : Int) (q : Int) (lim : Int) (t : Int) (k : Int) (order : List (List AV)) (es : List (List AV)) (ready : List (List AV)) : Int := bif !vev76_0 us ss d w then (0 : Int) else bif !vev31_4 q lim t k order es ready then (0 : Int) else vev31_3 q lim t k order es ready
noncomputable def vev39_7 (us : List (List AV)) (ss : List (List AV)) (d : Int) (w : Int) (q : Int) (lim : Int) (t : Int) (k : Int) (order : List (List AV)) (es : List (List AV)) (ready : List (List AV)) : Bool := bif !vev76_0 us ss d w then false else bif !vev31_4 q lim t k order es ready then false else true
noncomputable def vev39_8 (us : List (List AV)) (ss : List (List AV)) (d : Int) (w : Int) (q : Int) (lim : Int) (t : Int) (k : Int) (order : List (List AV)) (es : List (List AV)) (ready : List (List AV)) : List (List AV) := bif !vev76_0 us ss d w then ready else vev31_5 q lim t k order es ready
noncomputable def vev39_9 (us : List (List AV)) (ss : List (List AV)) (d : Int) (w : Int) (q : Int) (lim : Int) (t : Int) (k : Int) (order : List (List AV)) (es : List (List AV)) (ready : List (List AV)) : Int := bif !vev76_0 us ss d w then t else vev31_6 q lim t k order es ready
noncomputable def vev39_10 (us : List (List AV)) (ss : List (List AV)) (d : Int) (w : Int) (q : Int) (lim : Int) (t : Int) (k : Int) (order : List (List AV)) (es : List (List AV)) (ready : List (List AV)) : Int := bif !vev76_0 us ss d w then k else vev31_7 q lim t k order es ready
noncomputable def vev39_11 (us : List (List AV)) (ss : List (List AV)) (d : Int) (w : Int) (q : Int) (lim : Int) (t : Int) (k : Int) (order : List (List AV)) (es : List (List AV)) (ready : List (List AV)) : List (List AV) := bif !vev76_0 us ss d w then es else vev31_8 q lim t k order es ready
noncomputable def vev39_12 (us : List (List AV)) (ss : List (List AV)) (d : Int) (w : Int) (q : Int) (lim : Int) (t : Int) (k : Int) (order : List (List AV)) (es : List (List AV)) (ready : List (List AV)) : Bool := bif vev56_0 us ss d then bif vev76_1 us ss d w then bif !vev76_0 us ss d w then true else bif vev31_9 q lim t k order es ready then bif !vev31_4 q lim t k order es ready then true else bif decide ((0 : Int) ≤ w) && decide (w < (↑us.length : Int)) then bif decide ((0 : Int) ≤ w) && decide (w < (↑ss.length : Int)) then true else false else false else false else false else false
theorem ev39 (us : List (List AV)) (ss : List (List AV)) (d : Int) (w : Int) (q : Int) (lim : Int) (t : Int) (k : Int) (order : List (List AV)) (es : List (List AV)) (ready : List (List AV)) : evFin (cfg Try.prog tab 100000 (gk k39n 30) noLsp 39 ([.var [.int .i64 q, .int .i64 lim, .rf 1 [.int .i64], .mp 2 [.int .i64, .int .i64, .int .i64, .int .i64, .int .i64, .int .i64, .sl [.int .i64, .int .i64, .int .i64, .int .i64]], .sl .imm [.int .i64, .int .i64] ready, .int .i64 t, .int .i64 k], .row [.int .i64] order, .tbl [.int .i64, .int .i64, .int .i64, .int .i64, .int .i64, .int .i64, .sl [.int .i64, .int .i64, .int .i64, .int .i64]] es none] : List Blk).length Try.f39.ntmps) ([.var [.int .i64 q, .int .i64 lim, .rf 1 [.int .i64], .mp 2 [.int .i64, .int .i64, .int .i64, .int .i64, .int .i64, .int .i64, .sl [.int .i64, .int .i64, .int .i64, .int .i64]], .sl .imm [.int .i64, .int .i64] ready, .int .i64 t, .int .i64 k], .row [.int .i64] order, .tbl [.int .i64, .int .i64, .int .i64, .int .i64, .int .i64, .int .i64, .sl [.int .i64, .int .i64, .int .i64, .int .i64]] es none] : List Blk).length Try.f39.resultTypes.toList Try.f39 [.agg [.sl .imm [.int .i64] us, .sl .imm [.int .i64] ss, .int .i64 d], .hp 0 0, .int .i64 w] [.var [.int .i64 q, .int .i64 lim, .rf 1 [.int .i64], .mp 2 [.int .i64, .int .i64, .int .i64, .int .i64, .int .i64, .int .i64, .sl [.int .i64, .int .i64, .int .i64, .int .i64]], .sl .imm [.int .i64, .int .i64] ready, .int .i64 t, .int .i64 k], .row [.int .i64] order, .tbl [.int .i64, .int .i64, .int .i64, .int .i64, .int .i64, .int .i64, .sl [.int .i64, .int .i64, .int .i64, .int .i64]] es none] = bif vev39_12 us ss d w q lim t k order es ready then some (true, AV.tup [AV.agg [AV.sl Tk.imm [Kd.int IntKind.i64] (vev39_0 us ss d w q lim t k order es ready), AV.sl Tk.imm [Kd.int IntKind.i64] (vev39_1 us ss d w q lim t k order es ready), AV.int IntKind.i64 (vev39_2 us ss d w q lim t k order es ready)], AV.agg [AV.int IntKind.i64 (vev39_3 us ss d w q lim t k order es ready), AV.int IntKind.i64 (vev39_4 us ss d w q lim t k order es ready), AV.int IntKind.i64 (vev39_5 us ss d w q lim t k order es ready), AV.int IntKind.i64 (vev39_6 us ss d w q lim t k order es ready)], AV.bool (vev39_7 us ss d w q lim t k order es ready)], [Blk.var [AV.int IntKind.i64 q, AV.int IntKind.i64 lim, AV.rf (nat_lit 1) [Kd.int IntKind.i64], AV.mp (nat_lit 2) [Kd.int IntKind.i64, Kd.int IntKind.i64, Kd.int IntKind.i64, Kd.int IntKind.i64, Kd.int IntKind.i64, Kd.int IntKind.i64, Kd.sl [Kd.int IntKind.i64, Kd.int IntKind.i64, Kd.int IntKind.i64, Kd.int IntKind.i64]], AV.sl Tk.imm [Kd.int IntKind.i64, Kd.int IntKind.i64] (vev39_8 us ss d w q lim t k order es ready), AV.int IntKind.i64 (vev39_9 us ss d w q lim t k order es ready), AV.int IntKind.i64 (vev39_10 us ss d w q lim t k order es ready)], Blk.row [Kd.int IntKind.i64] order, Blk.tbl [Kd.int IntKind.i64, Kd.int IntKind.i64, Kd.int IntKind.i64, Kd.int IntKind.i64, Kd.int IntKind.i64, Kd.int IntKind.i64, Kd.sl [Kd.int IntKind.i64, Kd.int IntKind.i64, Kd.int IntKind.i64, Kd.int IntKind.i64]] (vev39_11 us ss d w q lim t k order es ready) none]) else none := by
 have h : evFin (cfg Try.prog tab 100000 (gk k39n 30) noLsp 39 ([.var [.int .i64 q, .int .i64 lim, .rf 1 [.int .i64], .mp 2 [.int .i64, .int .i64, .int .i64, .int .i64, .int .i64, .int .i64, .sl [.int .i64, .int .i64, .int .i64, .int .i64]], .sl .imm [.int .i64, .int .i64] ready, .int .i64 t, .int .i64 k], .row [.int .i64] order, .tbl [.int .i64, .int .i64, .int .i64, .int .i64, .int .i64, .int .i64, .sl [.int .i64, .int .i64, .int .i64, .int .i64]] es none] : List Blk).length Try.f39.ntmps) ([.var [.int .i64 q, .int .i64 lim, .rf 1 [.int .i64], .mp 2 [.int .i64, .int .i64, .int .i64, .int .i64, .int .i64, .int .i64, .sl [.int .i64, .int .i64, .int .i64, .int .i64]], .sl .imm [.int .i64, .int .i64] ready, .int .i64 t, .int .i64 k], .row [.int .i64] order, .tbl [.int .i64, .int .i64, .int .i64, .int .i64, .int .i64, .int .i64, .sl [.int .i64, .int .i64, .int .i64, .int .i64]] es none] : List Blk).length Try.f39.resultTypes.toList Try.f39 [.agg [.sl .imm [.int .i64] us, .sl .imm [.int .i64] ss, .int .i64 d], .hp 0 0, .int .i64 w] [.var [.int .i64 q, .int .i64 lim, .rf 1 [.int .i64], .mp 2 [.int .i64, .int .i64, .int .i64, .int .i64, .int .i64, .int .i64, .sl [.int .i64, .int .i64, .int .i64, .int .i64]], .sl .imm [.int .i64, .int .i64] ready, .int .i64 t, .int .i64 k], .row [.int .i64] order, .tbl [.int .i64, .int .i64, .int .i64, .int .i64, .int .i64, .int .i64, .sl [.int .i64, .int .i64, .int .i64, .int .i64]] es none] = bif vev56_0 us ss d then bif vev76_1 us ss d w then bif !vev76_0 us ss d w then some (true, AV.tup [AV.agg [AV.sl Tk.imm [Kd.int IntKind.i64] us, AV.sl Tk.imm [Kd.int IntKind.i64] ss, AV.int IntKind.i64 d], AV.agg [AV.int IntKind.i64 (0 : Int), AV.int IntKind.i64 (0 : Int), AV.int IntKind.i64 (0 : Int), AV.int IntKind.i64 (0 : Int)], AV.bool false], [Blk.var [AV.int IntKind.i64 q, AV.int IntKind.i64 lim, AV.rf (nat_lit 1) [Kd.int IntKind.i64], AV.mp (nat_lit 2) [Kd.int IntKind.i64, Kd.int IntKind.i64, Kd.int IntKind.i64, Kd.int IntKind.i64, Kd.int IntKind.i64, Kd.int IntKind.i64, Kd.sl [Kd.int IntKind.i64, Kd.int IntKind.i64, Kd.int IntKind.i64, Kd.int IntKind.i64]], AV.sl Tk.imm [Kd.int IntKind.i64, Kd.int IntKind.i64] ready, AV.int IntKind.i64 t, AV.int IntKind.i64 k], Blk.row [Kd.int IntKind.i64] order, Blk.tbl [Kd.int IntKind.i64, Kd.int IntKind.i64, Kd.int IntKind.i64, Kd.int IntKind.i64, Kd.int IntKind.i64, Kd.int IntKind.i64, Kd.sl [Kd.int IntKind.i64, Kd.int IntKind.i64, Kd.int IntKind.i64, Kd.int IntKind.i64]] es none]) else bif vev31_9 q lim t k order es ready then bif !vev31_4 q lim t k order es ready then some (true, AV.tup [AV.agg [AV.sl Tk.imm [Kd.int IntKind.i64] us, AV.sl Tk.imm [Kd.int IntKind.i64] ss, AV.int IntKind.i64 (if if false = true then rev39_0 us ss d w q lim t k order es ready < (1099511627776 : Int) else (1099511627776 : Int) < rev39_0 us ss d w q lim t k order es ready then (1099511627776 : Int) else rev39_0 us ss d w q lim t k order es ready)], AV.agg [AV.int IntKind.i64 (0 : Int), AV.int IntKind.i64 (0 : Int), AV.int IntKind.i64 (0 : Int), AV.int IntKind.i64 (0 : Int)], AV.bool false], [Blk.var [AV.int IntKind.i64 q, AV.int IntKind.i64 lim, AV.rf (nat_lit 1) [Kd.int IntKind.i64], AV.mp (nat_lit 2) [Kd.int IntKind.i64, Kd.int IntKind.i64, Kd.int IntKind.i64, Kd.int IntKind.i64, Kd.int IntKind.i64, Kd.int IntKind.i64, Kd.sl [Kd.int IntKind.i64, Kd.int IntKind.i64, Kd.int IntKind.i64, Kd.int IntKind.i64]], AV.sl Tk.imm [Kd.int IntKind.i64, Kd.int IntKind.i64] (vev31_5 q lim t k order es ready), AV.int IntKind.i64 (vev31_6 q lim t k order es ready), AV.int IntKind.i64 (vev31_7 q lim t k order es ready)], Blk.row [Kd.int IntKind.i64] order, Blk.tbl [Kd.int IntKind.i64, Kd.int IntKind.i64, Kd.int IntKind.i64, Kd.int IntKind.i64, Kd.int IntKind.i64, Kd.int IntKind.i64, Kd.sl [Kd.int IntKind.i64, Kd.int IntKind.i64, Kd.int IntKind.i64, Kd.int IntKind.i64]] (vev31_8 q lim t k order es ready) none]) else bif decide ((0 : Int) ≤ w) && decide (w < (↑us.length : Int)) then bif decide ((0 : Int) ≤ w) && decide (w < (↑us.length : Int)) then bif decide ((0 : Int) ≤ w) && decide (w < (↑ss.length : Int)) then bif decide ((0 : Int) ≤ w) && decide (w < (↑ss.length : Int)) then some (true, AV.tup [AV.agg [AV.sl Tk.imm [Kd.int IntKind.i64] (us.set w.toNat [AV.int IntKind.i64 (IntKind.i64.wrap (intOf ((us.getD w.toNat []).getD (0 : Nat) AV.junk) + rev39_1 us ss d w q lim t k order es ready))]), AV.sl Tk.imm [Kd.int IntKind.i64] (ss.set w.toNat [AV.int IntKind.i64 (IntKind.i64.wrap (intOf ((ss.getD w.toNat []).getD (0 : Nat) AV.junk) + (1 : Int)))]), AV.int IntKind.i64 d], AV.agg [AV.int IntKind.i64 (vev31_0 q lim t k order es ready), AV.int IntKind.i64 (vev31_1 q lim t k order es ready), AV.int IntKind.i64 (rev39_1 us ss d w q lim t k order es ready), AV.int IntKind.i64 (vev31_3 q lim t k order es ready)], AV.bool true], [Blk.var [AV.int IntKind.i64 q, AV.int IntKind.i64 lim, AV.rf (nat_lit 1) [Kd.int IntKind.i64], AV.mp (nat_lit 2) [Kd.int IntKind.i64, Kd.int IntKind.i64, Kd.int IntKind.i64, Kd.int IntKind.i64, Kd.int IntKind.i64, Kd.int IntKind.i64, Kd.sl [Kd.int IntKind.i64, Kd.int IntKind.i64, Kd.int IntKind.i64, Kd.int IntKind.i64]], AV.sl Tk.imm [Kd.int IntKind.i64, Kd.int IntKind.i64] (vev31_5 q lim t k order es ready), AV.int IntKind.i64 (vev31_6 q lim t k order es ready), AV.int IntKind.i64 (vev31_7 q lim t k order es ready)], Blk.row [Kd.int IntKind.i64] order, Blk.tbl [Kd.int IntKind.i64, Kd.int IntKind.i64, Kd.int IntKind.i64, Kd.int IntKind.i64, Kd.int IntKind.i64, Kd.int IntKind.i64, Kd.sl [Kd.int IntKind.i64, Kd.int IntKind.i64, Kd.int IntKind.i64, Kd.int IntKind.i64]] (vev31_8 q lim t k order es ready) none]) else none else none else none else none else none else none else none := by kernel_rfl
 rw [h]
 clear h
 unfold vev39_0 vev39_1 vev39_2 vev39_3 vev39_4 vev39_5 vev39_6 vev39_7 vev39_8 vev39_9 vev39_10 vev39_11 vev39_12
 generalize (decide ((0 : Int) ≤ w) && decide (w < (↑us.length : Int))) = c0
 generalize (decide ((0 : Int) ≤ w) && decide (w < (↑ss.length : Int))) = c1
 generalize (!vev31_4 q lim t k order es ready) = c2
 generalize (vev31_9 q lim t k order es ready) = c3
 generalize (!vev76_0 us ss d w) = c4
 generalize (vev76_1 us ss d w) = c5
 generalize (vev56_0 us ss d) = c6
 cases c6
 ·skip
  rfl
 ·skip
  cases c5
  ·skip
   rfl
  ·skip
   cases c4
   ·skip
    cases c3
    ·skip
     rfl
    ·skip
     cases c2
     ·skip
      cases c0
      ·skip
       rfl
      ·skip
       cases c1
       ·skip
        rfl
       ·skip
        rfl
     ·skip
      rfl
   ·skip
    rfl
noncomputable def sp39 : List AV → List Blk → Option (Bool × AV × List Blk)
 | [.agg [.sl .imm [.int .i64] us, .sl .imm [.int .i64] ss, .int .i64 d], .hp 0 0, .int .i64 w], [.var [.int .i64 q, .int .i64 lim, .rf 1 [.int .i64], .mp 2 [.int .i64, .int .i64, .int .i64, .int .i64, .int .i64, .int .i64, .sl [.int .i64, .int .i64, .int .i64, .int .i64]], .sl .imm [.int .i64, .int .i64] ready, .int .i64 t, .int .i64 k], .row [.int .i64] order, .tbl [.int .i64, .int .i64, .int .i64, .int .i64, .int .i64, .int .i64, .sl [.int .i64, .int .i64, .int .i64, .int .i64]] es none] => spW (vev39_12 us ss d w q lim t k order es ready) (some ((true, AV.tup [AV.agg [AV.sl Tk.imm [Kd.int IntKind.i64] (vev39_0 us ss d w q lim t k order es ready), AV.sl Tk.imm [Kd.int IntKind.i64] (vev39_1 us ss d w q lim t k order es ready), AV.int IntKind.i64 (vev39_2 us ss d w q lim t k order es ready)], AV.agg [AV.int IntKind.i64 (vev39_3 us ss d w q lim t k order es ready), AV.int IntKind.i64 (vev39_4 us ss d w q lim t k order es ready), AV.int IntKind.i64 (vev39_5 us ss d w q lim t k order es ready), AV.int IntKind.i64 (vev39_6 us ss d w q lim t k order es ready)], AV.bool (vev39_7 us ss d w q lim t k order es ready)], [Blk.var [AV.int IntKind.i64 q, AV.int IntKind.i64 lim, AV.rf (nat_lit 1) [Kd.int IntKind.i64], AV.mp (nat_lit 2) [Kd.int IntKind.i64, Kd.int IntKind.i64, Kd.int IntKind.i64, Kd.int IntKind.i64, Kd.int IntKind.i64, Kd.int IntKind.i64, Kd.sl [Kd.int IntKind.i64, Kd.int IntKind.i64, Kd.int IntKind.i64, Kd.int IntKind.i64]], AV.sl Tk.imm [Kd.int IntKind.i64, Kd.int IntKind.i64] (vev39_8 us ss d w q lim t k order es ready), AV.int IntKind.i64 (vev39_9 us ss d w q lim t k order es ready), AV.int IntKind.i64 (vev39_10 us ss d w q lim t k order es ready)], Blk.row [Kd.int IntKind.i64] order, Blk.tbl [Kd.int IntKind.i64, Kd.int IntKind.i64, Kd.int IntKind.i64, Kd.int IntKind.i64, Kd.int IntKind.i64, Kd.int IntKind.i64, Kd.sl [Kd.int IntKind.i64, Kd.int IntKind.i64, Kd.int IntKind.i64, Kd.int IntKind.i64]] (vev39_11 us ss d w q lim t k order es ready) none])))
 | _, _ => none
noncomputable def k39 : Gam := fun f T C => match Nat.beq f 39 with
 | true => (sp39 T C).or (k39n f T C)
 | false => k39n f T C
theorem k39_ok : GamOK Try.prog k39 := by
 intro f T C r outs h
 unfold k39 at h
 cases hf : Nat.beq f 39 with
 | false => rw [hf] at h; exact k39n_ok f T C r outs h
 | true =>
   have hf' := Nat.eq_of_beq_eq_true hf
   subst hf'
   rw [hf] at h
   dsimp only at h
   cases hs : sp39 T C with
   | none => rw [hs, Option.none_or] at h; exact k39n_ok _ T C r outs h
   | some x =>
     rw [hs] at h
     have hx : x = (true, r, outs) := by simpa using h
     subst hx
     unfold sp39 at hs
     split at hs
     ·rename_i us ss d w q lim ready t k order es
      obtain ⟨hb, rfl, rfl⟩ := spT_inv hs
      have he := ev39 us ss d w q lim t k order es ready
      rw [hb, cond_true] at he
      obtain ⟨r0, o0, h0, he⟩ := evFin_inv he
      obtain ⟨h1, h2⟩ := fn_ok mixed plain (gk_ok k39n_ok 30) Try.func39 (fun c _ => LoopsOK.none (fun _ _ => rfl) c) h0
      exact ⟨h1, h2.fin he⟩
     ·cases hs
end Go.Proofs.Gv
