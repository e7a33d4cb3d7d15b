import Derived.Test.YtgaadhlneglidaaGt
import Derived.KernelRfl
import Derived.Test.YtgaadhlneglidaaGwF
import Derived.Test.YtgaadhlneglidaaGaAg3
namespace Go.Proofs.Gv
open Go.Proofs
set_option linter.unusedVariables false
noncomputable def vev30_0 (a : Int) (b : Int) (c : Int) (d : Int) : Bool := bif decide (a ≥ (1 : Int)) then bif bif true then decide (a ≤ (2147483647 : Int)) else false then bif bif true then decide (b ≥ (0 : Int)) else false then bif bif true then decide (b ≤ (7 : Int)) else false then bif bif true then decide (c ≥ (1 : Int)) else false then bif bif true then decide (c ≤ (1099511627776 : Int)) else false then bif bif true then decide (d ≥ (0 : Int)) else false then bif true then decide (d ≤ (2000 : Int)) else false else false else false else false else false else false else false else false
theorem ev30 (a : Int) (b : Int) (c : Int) (d : Int) : evFin (cfg Try.prog tab 100000 (gk k14 30) noLsp 30 ([] : List Blk).length Try.f30.ntmps) ([] : List Blk).length Try.f30.resultTypes.toList Try.f30 [.agg [.int .i64 a, .int .i64 b, .int .i64 c, .int .i64 d]] [] = bif true then some (true, AV.bool (vev30_0 a b c d), []) else none := by
  have h : evFin (cfg Try.prog tab 100000 (gk k14 30) noLsp 30 ([] : List Blk).length Try.f30.ntmps) ([] : List Blk).length Try.f30.resultTypes.toList Try.f30 [.agg [.int .i64 a, .int .i64 b, .int .i64 c, .int .i64 d]] [] = bif bif decide (a ≥ (1 : Int)) then bif bif true then decide (a ≤ (2147483647 : Int)) else false then bif bif true then decide (b ≥ (0 : Int)) else false then bif bif true then decide (b ≤ (7 : Int)) else false then bif bif true then decide (c ≥ (1 : Int)) else false then bif bif true then decide (c ≤ (1099511627776 : Int)) else false then bif bif true then decide (d ≥ (0 : Int)) else false then true else true else true else true else true else true else true else true then some (true, AV.bool (bif decide (a ≥ (1 : Int)) then bif bif true then decide (a ≤ (2147483647 : Int)) else false then bif bif true then decide (b ≥ (0 : Int)) else false then bif bif true then decide (b ≤ (7 : Int)) else false then bif bif true then decide (c ≥ (1 : Int)) else false then bif bif true then decide (c ≤ (1099511627776 : Int)) else false then bif bif true then decide (d ≥ (0 : Int)) else false then bif true then decide (d ≤ (2000 : Int)) else false else false else false else false else false else false else false else false), []) else none := by kernel_rfl
  rw [h]
  clear h
  unfold vev30_0
  generalize (decide (d ≥ (0 : Int))) = c0
  generalize (decide (a ≥ (1 : Int))) = c1
  generalize (decide (a ≤ (2147483647 : Int))) = c2
  generalize (decide (b ≥ (0 : Int))) = c3
  generalize (decide (b ≤ (7 : Int))) = c4
  generalize (decide (c ≥ (1 : Int))) = c5
  generalize (decide (c ≤ (1099511627776 : Int))) = c6
  cases c1
  · skip
    rfl
  · skip
    cases c2
    · skip
      rfl
    · skip
      cases c3
      · skip
        rfl
      · skip
        cases c4
        · skip
          rfl
        · skip
          cases c5
          · skip
            rfl
          · skip
            cases c6
            · skip
              rfl
            · skip
              cases c0
              · skip
                rfl
              · skip
                rfl
-- spec true ;; (true, AV.bool (vev30_0 a b c d), [])
noncomputable def sp30 : List AV → List Blk → Option (Bool × AV × List Blk)
  | [.agg [.int .i64 a, .int .i64 b, .int .i64 c, .int .i64 d]], [] => spW (true) (some ((true, AV.bool (vev30_0 a b c d), [])))
  | _, _ => none
noncomputable def k30 : Gam := fun f T C => match Nat.beq f 30 with
  | true => (sp30 T C).or (k14 f T C)
  | false => k14 f T C
theorem k30_ok : GamOK Try.prog k30 := by
  intro f T C r outs h
  unfold k30 at h
  cases hf : Nat.beq f 30 with
  | false => rw [hf] at h; exact k14_ok f T C r outs h
  | true =>
    have hf' := Nat.eq_of_beq_eq_true hf
    subst hf'
    rw [hf] at h
    dsimp only at h
    cases hs : sp30 T C with
    | none => rw [hs] at h; exact k14_ok _ T C r outs h
    | some x =>
      rw [hs] at h
      have hx : x = (true, r, outs) := by simpa using h
      subst hx
      unfold sp30 at hs
      split at hs
      · rename_i a b c d
        obtain ⟨hb, rfl, rfl⟩ := spT_inv hs
        have he := ev30 a b c d
        obtain ⟨r0, o0, h0, he⟩ := evFin_inv he
        obtain ⟨h1, h2⟩ := fn_ok mixed plain (gk_ok k14_ok 30) Try.func30 (fun c _ => LoopsOK.none (fun _ _ => rfl) c) h0
        exact ⟨h1, h2.fin he⟩
      · cases hs
noncomputable def go31_2 (t1 : Int) (t5 : Int) (b0_0 : Int) (b0_1k : Tk) (b0_1 : List (List AV)) : Bool := bif decide (t5 < (↑b0_1.length : Int)) then bif decide ((0 : Int) ≤ t5) && decide (t5 < (↑b0_1.length : Int)) then bif intOf ((b0_1.getD t5.toNat []).getD (0 : Nat) AV.junk) == t1 then false else true else false else false
noncomputable def nx31_2_1 (t1 : Int) (t5 : Int) (b0_0 : Int) (b0_1k : Tk) (b0_1 : List (List AV)) : Int := IntKind.i64.wrap (t5 + (1 : Int))
noncomputable def xc31_2_0 (t1 : Int) (t5 : Int) (b0_0 : Int) (b0_1k : Tk) (b0_1 : List (List AV)) : Bool := bif decide (t5 < (↑b0_1.length : Int)) then bif decide ((0 : Int) ≤ t5) && decide (t5 < (↑b0_1.length : Int)) then intOf ((b0_1.getD t5.toNat []).getD (0 : Nat) AV.junk) == t1 else false else false
noncomputable def xc31_2_1 (t1 : Int) (t5 : Int) (b0_0 : Int) (b0_1k : Tk) (b0_1 : List (List AV)) : Bool := bif decide (t5 < (↑b0_1.length : Int)) then false else true
theorem rd31_2 (rest : Lsp) (t1 : Int) (t5 : Int) (b0_0 : Int) (b0_1k : Tk) (b0_1 : List (List AV)) : roundV (cfg Try.prog tab 100000 (gk k30 30) rest 31 0 Try.f31.ntmps) (loopAt Try.f31 2) [1, 2, 5] [0] [4] [] [AV.int IntKind.i64 t1, AV.hp (nat_lit 0) (nat_lit 0), AV.int IntKind.i64 t5] [Blk.var [AV.int IntKind.i64 b0_0, AV.sl b0_1k [Kd.int IntKind.i64, Kd.int IntKind.i64, Kd.int IntKind.i64, Kd.int IntKind.i64] b0_1]] = bif go31_2 t1 t5 b0_0 b0_1k b0_1 then some (Ex.norm, [AV.int IntKind.i64 t1, AV.hp (nat_lit 0) (nat_lit 0), AV.int IntKind.i64 (nx31_2_1 t1 t5 b0_0 b0_1k b0_1)], [Blk.var [AV.int IntKind.i64 b0_0, AV.sl b0_1k [Kd.int IntKind.i64, Kd.int IntKind.i64, Kd.int IntKind.i64, Kd.int IntKind.i64] b0_1]]) else bif xc31_2_0 t1 t5 b0_0 b0_1k b0_1 then some (Ex.ret, [AV.int IntKind.i64 t5], []) else bif xc31_2_1 t1 t5 b0_0 b0_1k b0_1 then some (Ex.exit (nat_lit 0), [AV.junk], []) else none := by
  have h : roundV (cfg Try.prog tab 100000 (gk k30 30) rest 31 0 Try.f31.ntmps) (loopAt Try.f31 2) [1, 2, 5] [0] [4] [] [AV.int IntKind.i64 t1, AV.hp (nat_lit 0) (nat_lit 0), AV.int IntKind.i64 t5] [Blk.var [AV.int IntKind.i64 b0_0, AV.sl b0_1k [Kd.int IntKind.i64, Kd.int IntKind.i64, Kd.int IntKind.i64, Kd.int IntKind.i64] b0_1]] = bif decide (t5 < (↑b0_1.length : Int)) then bif decide ((0 : Int) ≤ t5) && decide (t5 < (↑b0_1.length : Int)) then bif intOf ((b0_1.getD t5.toNat []).getD (0 : Nat) AV.junk) == t1 then some (Ex.ret, [AV.int IntKind.i64 t5], []) else some (Ex.norm, [AV.int IntKind.i64 t1, AV.hp (nat_lit 0) (nat_lit 0), AV.int IntKind.i64 (IntKind.i64.wrap (t5 + (1 : Int)))], [Blk.var [AV.int IntKind.i64 b0_0, AV.sl b0_1k [Kd.int IntKind.i64, Kd.int IntKind.i64, Kd.int IntKind.i64, Kd.int IntKind.i64] b0_1]]) else none else some (Ex.exit (nat_lit 0), [AV.junk], []) := by kernel_rfl
  rw [h]
  clear h
  unfold go31_2 nx31_2_1 xc31_2_0 xc31_2_1
  generalize (decide ((0 : Int) ≤ t5) && decide (t5 < (↑b0_1.length : Int))) = c0
  generalize (intOf ((b0_1.getD t5.toNat []).getD (0 : Nat) AV.junk) == t1) = c1
  generalize (decide (t5 < (↑b0_1.length : Int))) = c2
  cases c2
  · skip
    rfl
  · skip
    cases c0
    · skip
      rfl
    · skip
      cases c1
      · skip
        rfl
      · skip
        rfl
abbrev pl31_2 : Type := Int × Int × Tk × (List (List AV))
abbrev sl31_2 : Type := Int
noncomputable def vt31_2 (a : pl31_2 × sl31_2) : List AV := [AV.int IntKind.i64 a.1.1, AV.hp (nat_lit 0) (nat_lit 0), AV.int IntKind.i64 a.2]
noncomputable def vc31_2 (a : pl31_2 × sl31_2) : List Blk := [Blk.var [AV.int IntKind.i64 a.1.2.1, AV.sl a.1.2.2.1 [Kd.int IntKind.i64, Kd.int IntKind.i64, Kd.int IntKind.i64, Kd.int IntKind.i64] a.1.2.2.2]]
noncomputable def de31_2 (vt : List AV) (vc : List Blk) : Option (pl31_2 × sl31_2) :=
  match vt with
  | [qa0, qa1, qa2] => (match vc with
  | [qb0] => (match qa0 with
  | AV.int IntKind.i64 t1 => (match qa1 with
  | AV.hp (0) (0) => (match qa2 with
  | AV.int IntKind.i64 t5 => (match qb0 with
  | Blk.var [AV.int IntKind.i64 b0_0, AV.sl b0_1k [Kd.int IntKind.i64, Kd.int IntKind.i64, Kd.int IntKind.i64, Kd.int IntKind.i64] b0_1] => (some ((t1, b0_0, b0_1k, b0_1), t5))
  | _ => none)
  | _ => none)
  | _ => none)
  | _ => none)
  | _ => none)
  | _ => none
theorem de31_2_ok (vt : List AV) (vc : List Blk) (a : pl31_2 × sl31_2) (h : de31_2 vt vc = some a) : vt = vt31_2 a ∧ vc = vc31_2 a := by
  unfold de31_2 at h
  split at h
  rotate_left
  · cases h
  split at h
  rotate_left
  · cases h
  split at h
  rotate_left
  · cases h
  split at h
  rotate_left
  · cases h
  split at h
  rotate_left
  · cases h
  split at h
  rotate_left
  · cases h
  injection h with h
  subst h
  exact ⟨rfl, rfl⟩
noncomputable def g31_2 (p : pl31_2) (s : sl31_2) : Bool := go31_2 p.1 s p.2.1 p.2.2.1 p.2.2.2
noncomputable def n31_2 (p : pl31_2) (s : sl31_2) : sl31_2 := nx31_2_1 p.1 s p.2.1 p.2.2.1 p.2.2.2
noncomputable def y31_2 (p : pl31_2) (s : sl31_2) : List (Bool × Out) := [(xc31_2_0 p.1 s p.2.1 p.2.2.1 p.2.2.2, (Ex.ret, [AV.int IntKind.i64 s], []))]
noncomputable def z31_2 (p : pl31_2) (s : sl31_2) : Bool := xc31_2_1 p.1 s p.2.1 p.2.2.1 p.2.2.2
noncomputable def d31_2 (p : pl31_2) (s : sl31_2) : Out := (Ex.exit (nat_lit 0), [AV.junk], [])
noncomputable def ls31_2 : St → Option (Bool × List (Bool × Ex × St) × Ex × St) := lspOf [1, 2, 5] [0] [4] [] Try.f31.ntmps (0 + tab.nid 31) de31_2 (spI g31_2 n31_2 y31_2 z31_2 d31_2)
theorem lo31_2 (rest : Lsp) : LoopOK1 (cfg Try.prog tab 100000 (gk k30 30) (selL 2 ls31_2 rest) 31 0 Try.f31.ntmps) (loopAt Try.f31 2) := LoopOK1.iter (i := 2) (by kernel_rfl) [1, 2, 5] [0] [4] [] vt31_2 vc31_2 de31_2 g31_2 n31_2 y31_2 z31_2 d31_2 (fun _ => rfl) de31_2_ok (fun p s => rd31_2 (selL 2 ls31_2 rest) (p.1) s (p.2.1) (p.2.2.1) (p.2.2.2)) (fun _ _ => rfl)
noncomputable def lsp31 : Lsp := (selL 2 ls31_2 noLsp)
theorem loops31 : ∀ c, Try.f31.body = some c → LoopsOK (cfg Try.prog tab 100000 (gk k30 30) lsp31 31 0 Try.f31.ntmps) c := loops_of [2] (by kernel_rfl) (by kernel_rfl) (fun i hi => by
  simp only [List.mem_cons, List.not_mem_nil, or_false] at hi
  subst hi
  · exact lo31_2 noLsp)
noncomputable def rev31_0 (l : Int) (tk : Tk) (es : List (List AV)) (id : Int) : sl31_2 := finL (g31_2 (id, l, tk, es)) (n31_2 (id, l, tk, es)) (0 : Int)
noncomputable def vev31_0 (l : Int) (tk : Tk) (es : List (List AV)) (id : Int) : sl31_2 := bif xc31_2_0 id (rev31_0 l tk es id) l tk es then rev31_0 l tk es id else (-1 : Int)
noncomputable def vev31_1 (l : Int) (tk : Tk) (es : List (List AV)) (id : Int) : Bool := bif (spI g31_2 n31_2 y31_2 z31_2 d31_2 ((id, l, tk, es), (0 : Int))).fst then true else false
theorem ev31 (l : Int) (tk : Tk) (es : List (List AV)) (id : Int) : evFin (cfg Try.prog tab 100000 (gk k30 30) lsp31 31 ([] : List Blk).length Try.f31.ntmps) ([] : List Blk).length Try.f31.resultTypes.toList Try.f31 [.agg [.int .i64 l, .sl tk [.int .i64, .int .i64, .int .i64, .int .i64] es], .int .i64 id] [] = bif vev31_1 l tk es id then some (true, AV.int IntKind.i64 (vev31_0 l tk es id), []) else none := by
  have h : evFin (cfg Try.prog tab 100000 (gk k30 30) lsp31 31 ([] : List Blk).length Try.f31.ntmps) ([] : List Blk).length Try.f31.resultTypes.toList Try.f31 [.agg [.int .i64 l, .sl tk [.int .i64, .int .i64, .int .i64, .int .i64] es], .int .i64 id] [] = bif (spI g31_2 n31_2 y31_2 z31_2 d31_2 ((id, l, tk, es), (0 : Int))).fst then bif xc31_2_0 id (rev31_0 l tk es id) l tk es then some (true, AV.int IntKind.i64 (rev31_0 l tk es id), []) else some (true, AV.int IntKind.i64 (-1 : Int), []) else none := by kernel_rfl
  rw [h]
  clear h
  unfold vev31_0 vev31_1
  generalize ((spI g31_2 n31_2 y31_2 z31_2 d31_2 ((id, l, tk, es), (0 : Int))).fst) = c0
  generalize (xc31_2_0 id (rev31_0 l tk es id) l tk es) = c1
  cases c0
  · skip
    rfl
  · skip
    cases c1
    · skip
      rfl
    · skip
      rfl
-- spec vev31_1 l tk es id ;; (true, AV.int IntKind.i64 (vev31_0 l tk es id), [])
noncomputable def sp31 : List AV → List Blk → Option (Bool × AV × List Blk)
  | [.agg [.int .i64 l, .sl tk [.int .i64, .int .i64, .int .i64, .int .i64] es], .int .i64 id], [] => spW (vev31_1 l tk es id) (some ((true, AV.int IntKind.i64 (vev31_0 l tk es id), [])))
  | _, _ => none
noncomputable def k31 : Gam := fun f T C => match Nat.beq f 31 with
  | true => (sp31 T C).or (k30 f T C)
  | false => k30 f T C
theorem k31_ok : GamOK Try.prog k31 := by
  intro f T C r outs h
  unfold k31 at h
  cases hf : Nat.beq f 31 with
  | false => rw [hf] at h; exact k30_ok f T C r outs h
  | true =>
    have hf' := Nat.eq_of_beq_eq_true hf
    subst hf'
    rw [hf] at h
    dsimp only at h
    cases hs : sp31 T C with
    | none => rw [hs] at h; exact k30_ok _ T C r outs h
    | some x =>
      rw [hs] at h
      have hx : x = (true, r, outs) := by simpa using h
      subst hx
      unfold sp31 at hs
      split at hs
      · rename_i l tk es id
        obtain ⟨hb, rfl, rfl⟩ := spT_inv hs
        have he := ev31 l tk es id
        rw [hb, cond_true] at he
        obtain ⟨r0, o0, h0, he⟩ := evFin_inv he
        obtain ⟨h1, h2⟩ := fn_ok mixed plain (gk_ok k30_ok 30) Try.func31 loops31 h0
        exact ⟨h1, h2.fin he⟩
      · cases hs
noncomputable def go25_6 (t3 : Int) (b0_0 : Int) (b0_1k : Tk) (b0_1 : List (List AV)) : Bool := bif decide (t3 < (↑b0_1.length : Int)) then bif decide ((0 : Int) ≤ t3) && decide (t3 < (↑b0_1.length : Int)) then bif !vev30_0 (intOf ((b0_1.getD t3.toNat []).getD (0 : Nat) AV.junk)) (intOf ((b0_1.getD t3.toNat []).getD ((0 : Nat) + (1 : Nat)) AV.junk)) (intOf ((b0_1.getD t3.toNat []).getD ((0 : Nat) + (1 : Nat) + (1 : Nat)) AV.junk)) (intOf ((b0_1.getD t3.toNat []).getD ((0 : Nat) + (1 : Nat) + (1 : Nat) + (1 : Nat)) AV.junk)) then false else true else false else false
noncomputable def nx25_6_0 (t3 : Int) (b0_0 : Int) (b0_1k : Tk) (b0_1 : List (List AV)) : Int := IntKind.i64.wrap (t3 + (1 : Int))
noncomputable def xc25_6_0 (t3 : Int) (b0_0 : Int) (b0_1k : Tk) (b0_1 : List (List AV)) : Bool := bif decide (t3 < (↑b0_1.length : Int)) then bif decide ((0 : Int) ≤ t3) && decide (t3 < (↑b0_1.length : Int)) then !vev30_0 (intOf ((b0_1.getD t3.toNat []).getD (0 : Nat) AV.junk)) (intOf ((b0_1.getD t3.toNat []).getD ((0 : Nat) + (1 : Nat)) AV.junk)) (intOf ((b0_1.getD t3.toNat []).getD ((0 : Nat) + (1 : Nat) + (1 : Nat)) AV.junk)) (intOf ((b0_1.getD t3.toNat []).getD ((0 : Nat) + (1 : Nat) + (1 : Nat) + (1 : Nat)) AV.junk)) else false else false
noncomputable def xc25_6_1 (t3 : Int) (b0_0 : Int) (b0_1k : Tk) (b0_1 : List (List AV)) : Bool := bif decide (t3 < (↑b0_1.length : Int)) then false else true
theorem rd25_6 (rest : Lsp) (t3 : Int) (b0_0 : Int) (b0_1k : Tk) (b0_1 : List (List AV)) : roundV (cfg Try.prog tab 100000 (gk k31 30) rest 25 0 Try.f25.ntmps) (loopAt Try.f25 6) [1, 3] [0] [1, 2] [0] [AV.hp (nat_lit 0) (nat_lit 0), AV.int IntKind.i64 t3] [Blk.var [AV.int IntKind.i64 b0_0, AV.sl b0_1k [Kd.int IntKind.i64, Kd.int IntKind.i64, Kd.int IntKind.i64, Kd.int IntKind.i64] b0_1]] = bif go25_6 t3 b0_0 b0_1k b0_1 then some (Ex.norm, [AV.hp (nat_lit 0) (nat_lit 0), AV.int IntKind.i64 (nx25_6_0 t3 b0_0 b0_1k b0_1)], [Blk.var [AV.int IntKind.i64 b0_0, AV.sl b0_1k [Kd.int IntKind.i64, Kd.int IntKind.i64, Kd.int IntKind.i64, Kd.int IntKind.i64] b0_1]]) else bif xc25_6_0 t3 b0_0 b0_1k b0_1 then some (Ex.ret, [AV.hp (nat_lit 0) (nat_lit 0), AV.int IntKind.i64 (8 : Int)], [Blk.var [AV.int IntKind.i64 b0_0, AV.sl b0_1k [Kd.int IntKind.i64, Kd.int IntKind.i64, Kd.int IntKind.i64, Kd.int IntKind.i64] b0_1]]) else bif xc25_6_1 t3 b0_0 b0_1k b0_1 then some (Ex.exit (nat_lit 1), [AV.hp (nat_lit 0) (nat_lit 0), AV.junk], [Blk.var [AV.int IntKind.i64 b0_0, AV.sl b0_1k [Kd.int IntKind.i64, Kd.int IntKind.i64, Kd.int IntKind.i64, Kd.int IntKind.i64] b0_1]]) else none := by
  have h : roundV (cfg Try.prog tab 100000 (gk k31 30) rest 25 0 Try.f25.ntmps) (loopAt Try.f25 6) [1, 3] [0] [1, 2] [0] [AV.hp (nat_lit 0) (nat_lit 0), AV.int IntKind.i64 t3] [Blk.var [AV.int IntKind.i64 b0_0, AV.sl b0_1k [Kd.int IntKind.i64, Kd.int IntKind.i64, Kd.int IntKind.i64, Kd.int IntKind.i64] b0_1]] = bif decide (t3 < (↑b0_1.length : Int)) then bif decide ((0 : Int) ≤ t3) && decide (t3 < (↑b0_1.length : Int)) then bif !vev30_0 (intOf ((b0_1.getD t3.toNat []).getD (0 : Nat) AV.junk)) (intOf ((b0_1.getD t3.toNat []).getD ((0 : Nat) + (1 : Nat)) AV.junk)) (intOf ((b0_1.getD t3.toNat []).getD ((0 : Nat) + (1 : Nat) + (1 : Nat)) AV.junk)) (intOf ((b0_1.getD t3.toNat []).getD ((0 : Nat) + (1 : Nat) + (1 : Nat) + (1 : Nat)) AV.junk)) then some (Ex.ret, [AV.hp (nat_lit 0) (nat_lit 0), AV.int IntKind.i64 (8 : Int)], [Blk.var [AV.int IntKind.i64 b0_0, AV.sl b0_1k [Kd.int IntKind.i64, Kd.int IntKind.i64, Kd.int IntKind.i64, Kd.int IntKind.i64] b0_1]]) else some (Ex.norm, [AV.hp (nat_lit 0) (nat_lit 0), AV.int IntKind.i64 (IntKind.i64.wrap (t3 + (1 : Int)))], [Blk.var [AV.int IntKind.i64 b0_0, AV.sl b0_1k [Kd.int IntKind.i64, Kd.int IntKind.i64, Kd.int IntKind.i64, Kd.int IntKind.i64] b0_1]]) else none else some (Ex.exit (nat_lit 1), [AV.hp (nat_lit 0) (nat_lit 0), AV.junk], [Blk.var [AV.int IntKind.i64 b0_0, AV.sl b0_1k [Kd.int IntKind.i64, Kd.int IntKind.i64, Kd.int IntKind.i64, Kd.int IntKind.i64] b0_1]]) := by kernel_rfl
  rw [h]
  clear h
  unfold go25_6 nx25_6_0 xc25_6_0 xc25_6_1
  generalize (!vev30_0 (intOf ((b0_1.getD t3.toNat []).getD (0 : Nat) AV.junk)) (intOf ((b0_1.getD t3.toNat []).getD ((0 : Nat) + (1 : Nat)) AV.junk)) (intOf ((b0_1.getD t3.toNat []).getD ((0 : Nat) + (1 : Nat) + (1 : Nat)) AV.junk)) (intOf ((b0_1.getD t3.toNat []).getD ((0 : Nat) + (1 : Nat) + (1 : Nat) + (1 : Nat)) AV.junk))) = c0
  generalize (decide ((0 : Int) ≤ t3) && decide (t3 < (↑b0_1.length : Int))) = c1
  generalize (decide (t3 < (↑b0_1.length : Int))) = c2
  cases c2
  · skip
    rfl
  · skip
    cases c1
    · skip
      rfl
    · skip
      cases c0
      · skip
        rfl
      · skip
        rfl
abbrev pl25_6 : Type := Int × Tk × (List (List AV))
abbrev sl25_6 : Type := Int
noncomputable def vt25_6 (a : pl25_6 × sl25_6) : List AV := [AV.hp (nat_lit 0) (nat_lit 0), AV.int IntKind.i64 a.2]
noncomputable def vc25_6 (a : pl25_6 × sl25_6) : List Blk := [Blk.var [AV.int IntKind.i64 a.1.1, AV.sl a.1.2.1 [Kd.int IntKind.i64, Kd.int IntKind.i64, Kd.int IntKind.i64, Kd.int IntKind.i64] a.1.2.2]]
noncomputable def de25_6 (vt : List AV) (vc : List Blk) : Option (pl25_6 × sl25_6) :=
  match vt with
  | [qa0, qa1] => (match vc with
  | [qb0] => (match qa0 with
  | AV.hp (0) (0) => (match qa1 with
  | AV.int IntKind.i64 t3 => (match qb0 with
  | Blk.var [AV.int IntKind.i64 b0_0, AV.sl b0_1k [Kd.int IntKind.i64, Kd.int IntKind.i64, Kd.int IntKind.i64, Kd.int IntKind.i64] b0_1] => (some ((b0_0, b0_1k, b0_1), t3))
  | _ => none)
  | _ => none)
  | _ => none)
  | _ => none)
  | _ => none
theorem de25_6_ok (vt : List AV) (vc : List Blk) (a : pl25_6 × sl25_6) (h : de25_6 vt vc = some a) : vt = vt25_6 a ∧ vc = vc25_6 a := by
  unfold de25_6 at h
  split at h
  rotate_left
  · cases h
  split at h
  rotate_left
  · cases h
  split at h
  rotate_left
  · cases h
  split at h
  rotate_left
  · cases h
  split at h
  rotate_left
  · cases h
  injection h with h
  subst h
  exact ⟨rfl, rfl⟩
noncomputable def g25_6 (p : pl25_6) (s : sl25_6) : Bool := go25_6 s p.1 p.2.1 p.2.2
noncomputable def n25_6 (p : pl25_6) (s : sl25_6) : sl25_6 := nx25_6_0 s p.1 p.2.1 p.2.2
noncomputable def y25_6 (p : pl25_6) (s : sl25_6) : List (Bool × Out) := [(xc25_6_0 s p.1 p.2.1 p.2.2, (Ex.ret, [AV.hp (nat_lit 0) (nat_lit 0), AV.int IntKind.i64 (8 : Int)], [Blk.var [AV.int IntKind.i64 p.1, AV.sl p.2.1 [Kd.int IntKind.i64, Kd.int IntKind.i64, Kd.int IntKind.i64, Kd.int IntKind.i64] p.2.2]]))]
noncomputable def z25_6 (p : pl25_6) (s : sl25_6) : Bool := xc25_6_1 s p.1 p.2.1 p.2.2
noncomputable def d25_6 (p : pl25_6) (s : sl25_6) : Out := (Ex.exit (nat_lit 1), [AV.hp (nat_lit 0) (nat_lit 0), AV.junk], [Blk.var [AV.int IntKind.i64 p.1, AV.sl p.2.1 [Kd.int IntKind.i64, Kd.int IntKind.i64, Kd.int IntKind.i64, Kd.int IntKind.i64] p.2.2]])
noncomputable def ls25_6 : St → Option (Bool × List (Bool × Ex × St) × Ex × St) := lspOf [1, 3] [0] [1, 2] [0] Try.f25.ntmps (0 + tab.nid 25) de25_6 (spI g25_6 n25_6 y25_6 z25_6 d25_6)
theorem lo25_6 (rest : Lsp) : LoopOK1 (cfg Try.prog tab 100000 (gk k31 30) (selL 6 ls25_6 rest) 25 0 Try.f25.ntmps) (loopAt Try.f25 6) := LoopOK1.iter (i := 6) (by kernel_rfl) [1, 3] [0] [1, 2] [0] vt25_6 vc25_6 de25_6 g25_6 n25_6 y25_6 z25_6 d25_6 (fun _ => rfl) de25_6_ok (fun p s => rd25_6 (selL 6 ls25_6 rest) s (p.1) (p.2.1) (p.2.2)) (fun _ _ => rfl)
noncomputable def rn25_11_0 (t4 : Int) (b0_0 : Int) (b0_1k : Tk) (b0_1 : List (List AV)) : Int := intOf ((b0_1.getD t4.toNat []).getD (0 : Nat) AV.junk)
noncomputable def go25_11 (t4 : Int) (b0_0 : Int) (b0_1k : Tk) (b0_1 : List (List AV)) : Bool := bif decide (t4 < (↑b0_1.length : Int)) then bif decide ((0 : Int) ≤ t4) && decide (t4 < (↑b0_1.length : Int)) then bif vev31_1 b0_0 b0_1k b0_1 (rn25_11_0 t4 b0_0 b0_1k b0_1) then bif vev31_0 b0_0 b0_1k b0_1 (rn25_11_0 t4 b0_0 b0_1k b0_1) != t4 then false else true else false else false else false
noncomputable def nx25_11_0 (t4 : Int) (b0_0 : Int) (b0_1k : Tk) (b0_1 : List (List AV)) : Int := IntKind.i64.wrap (t4 + (1 : Int))
noncomputable def xc25_11_0 (t4 : Int) (b0_0 : Int) (b0_1k : Tk) (b0_1 : List (List AV)) : Bool := bif decide (t4 < (↑b0_1.length : Int)) then bif decide ((0 : Int) ≤ t4) && decide (t4 < (↑b0_1.length : Int)) then bif vev31_1 b0_0 b0_1k b0_1 (rn25_11_0 t4 b0_0 b0_1k b0_1) then vev31_0 b0_0 b0_1k b0_1 (rn25_11_0 t4 b0_0 b0_1k b0_1) != t4 else false else false else false
noncomputable def xc25_11_1 (t4 : Int) (b0_0 : Int) (b0_1k : Tk) (b0_1 : List (List AV)) : Bool := bif decide (t4 < (↑b0_1.length : Int)) then false else true
theorem rd25_11 (rest : Lsp) (t4 : Int) (b0_0 : Int) (b0_1k : Tk) (b0_1 : List (List AV)) : roundV (cfg Try.prog tab 100000 (gk k31 30) (selL 6 ls25_6 rest) 25 0 Try.f25.ntmps) (loopAt Try.f25 11) [1, 4] [0] [2] [] [AV.hp (nat_lit 0) (nat_lit 0), AV.int IntKind.i64 t4] [Blk.var [AV.int IntKind.i64 b0_0, AV.sl b0_1k [Kd.int IntKind.i64, Kd.int IntKind.i64, Kd.int IntKind.i64, Kd.int IntKind.i64] b0_1]] = bif go25_11 t4 b0_0 b0_1k b0_1 then some (Ex.norm, [AV.hp (nat_lit 0) (nat_lit 0), AV.int IntKind.i64 (nx25_11_0 t4 b0_0 b0_1k b0_1)], [Blk.var [AV.int IntKind.i64 b0_0, AV.sl b0_1k [Kd.int IntKind.i64, Kd.int IntKind.i64, Kd.int IntKind.i64, Kd.int IntKind.i64] b0_1]]) else bif xc25_11_0 t4 b0_0 b0_1k b0_1 then some (Ex.ret, [AV.int IntKind.i64 (12 : Int)], []) else bif xc25_11_1 t4 b0_0 b0_1k b0_1 then some (Ex.exit (nat_lit 3), [AV.junk], []) else none := by
  have h : roundV (cfg Try.prog tab 100000 (gk k31 30) (selL 6 ls25_6 rest) 25 0 Try.f25.ntmps) (loopAt Try.f25 11) [1, 4] [0] [2] [] [AV.hp (nat_lit 0) (nat_lit 0), AV.int IntKind.i64 t4] [Blk.var [AV.int IntKind.i64 b0_0, AV.sl b0_1k [Kd.int IntKind.i64, Kd.int IntKind.i64, Kd.int IntKind.i64, Kd.int IntKind.i64] b0_1]] = bif decide (t4 < (↑b0_1.length : Int)) then bif decide ((0 : Int) ≤ t4) && decide (t4 < (↑b0_1.length : Int)) then bif vev31_1 b0_0 b0_1k b0_1 (rn25_11_0 t4 b0_0 b0_1k b0_1) then bif vev31_0 b0_0 b0_1k b0_1 (rn25_11_0 t4 b0_0 b0_1k b0_1) != t4 then some (Ex.ret, [AV.int IntKind.i64 (12 : Int)], []) else some (Ex.norm, [AV.hp (nat_lit 0) (nat_lit 0), AV.int IntKind.i64 (IntKind.i64.wrap (t4 + (1 : Int)))], [Blk.var [AV.int IntKind.i64 b0_0, AV.sl b0_1k [Kd.int IntKind.i64, Kd.int IntKind.i64, Kd.int IntKind.i64, Kd.int IntKind.i64] b0_1]]) else none else none else some (Ex.exit (nat_lit 3), [AV.junk], []) := by kernel_rfl
  rw [h]
  clear h
  unfold go25_11 nx25_11_0 xc25_11_0 xc25_11_1
  generalize (decide ((0 : Int) ≤ t4) && decide (t4 < (↑b0_1.length : Int))) = c0
  generalize (decide (t4 < (↑b0_1.length : Int))) = c1
  generalize (vev31_0 b0_0 b0_1k b0_1 (rn25_11_0 t4 b0_0 b0_1k b0_1) != t4) = c2
  generalize (vev31_1 b0_0 b0_1k b0_1 (rn25_11_0 t4 b0_0 b0_1k b0_1)) = c3
  cases c1
  · skip
    rfl
  · skip
    cases c0
    · skip
      rfl
    · skip
      cases c3
      · skip
        rfl
      · skip
        cases c2
        · skip
          rfl
        · skip
          rfl
abbrev pl25_11 : Type := Int × Tk × (List (List AV))
abbrev sl25_11 : Type := Int
noncomputable def vt25_11 (a : pl25_11 × sl25_11) : List AV := [AV.hp (nat_lit 0) (nat_lit 0), AV.int IntKind.i64 a.2]
noncomputable def vc25_11 (a : pl25_11 × sl25_11) : List Blk := [Blk.var [AV.int IntKind.i64 a.1.1, AV.sl a.1.2.1 [Kd.int IntKind.i64, Kd.int IntKind.i64, Kd.int IntKind.i64, Kd.int IntKind.i64] a.1.2.2]]
noncomputable def de25_11 (vt : List AV) (vc : List Blk) : Option (pl25_11 × sl25_11) :=
  match vt with
  | [qa0, qa1] => (match vc with
  | [qb0] => (match qa0 with
  | AV.hp (0) (0) => (match qa1 with
  | AV.int IntKind.i64 t4 => (match qb0 with
  | Blk.var [AV.int IntKind.i64 b0_0, AV.sl b0_1k [Kd.int IntKind.i64, Kd.int IntKind.i64, Kd.int IntKind.i64, Kd.int IntKind.i64] b0_1] => (some ((b0_0, b0_1k, b0_1), t4))
  | _ => none)
  | _ => none)
  | _ => none)
  | _ => none)
  | _ => none
theorem de25_11_ok (vt : List AV) (vc : List Blk) (a : pl25_11 × sl25_11) (h : de25_11 vt vc = some a) : vt = vt25_11 a ∧ vc = vc25_11 a := by
  unfold de25_11 at h
  split at h
  rotate_left
  · cases h
  split at h
  rotate_left
  · cases h
  split at h
  rotate_left
  · cases h
  split at h
  rotate_left
  · cases h
  split at h
  rotate_left
  · cases h
  injection h with h
  subst h
  exact ⟨rfl, rfl⟩
noncomputable def g25_11 (p : pl25_11) (s : sl25_11) : Bool := go25_11 s p.1 p.2.1 p.2.2
noncomputable def n25_11 (p : pl25_11) (s : sl25_11) : sl25_11 := nx25_11_0 s p.1 p.2.1 p.2.2
noncomputable def y25_11 (p : pl25_11) (s : sl25_11) : List (Bool × Out) := [(xc25_11_0 s p.1 p.2.1 p.2.2, (Ex.ret, [AV.int IntKind.i64 (12 : Int)], []))]
noncomputable def z25_11 (p : pl25_11) (s : sl25_11) : Bool := xc25_11_1 s p.1 p.2.1 p.2.2
noncomputable def d25_11 (p : pl25_11) (s : sl25_11) : Out := (Ex.exit (nat_lit 3), [AV.junk], [])
noncomputable def ls25_11 : St → Option (Bool × List (Bool × Ex × St) × Ex × St) := lspOf [1, 4] [0] [2] [] Try.f25.ntmps (0 + tab.nid 25) de25_11 (spI g25_11 n25_11 y25_11 z25_11 d25_11)
theorem lo25_11 (rest : Lsp) : LoopOK1 (cfg Try.prog tab 100000 (gk k31 30) (selL 6 ls25_6 (selL 11 ls25_11 rest)) 25 0 Try.f25.ntmps) (loopAt Try.f25 11) := LoopOK1.iter (i := 11) (by kernel_rfl) [1, 4] [0] [2] [] vt25_11 vc25_11 de25_11 g25_11 n25_11 y25_11 z25_11 d25_11 (fun _ => rfl) de25_11_ok (fun p s => rd25_11 (selL 11 ls25_11 rest) s (p.1) (p.2.1) (p.2.2)) (fun _ _ => rfl)
noncomputable def lsp25 : Lsp := (selL 6 ls25_6 (selL 11 ls25_11 noLsp))
theorem loops25 : ∀ c, Try.f25.body = some c → LoopsOK (cfg Try.prog tab 100000 (gk k31 30) lsp25 25 0 Try.f25.ntmps) c := loops_of [6, 11] (by kernel_rfl) (by kernel_rfl) (fun i hi => by
  simp only [List.mem_cons, List.not_mem_nil, or_false] at hi
  rcases hi with rfl | rfl
  · exact lo25_6 (selL 11 ls25_11 noLsp)
  · exact lo25_11 noLsp)
noncomputable def rev25_0 (l : Int) (tk : Tk) (es : List (List AV)) : sl25_6 := finL (g25_6 (l, tk, es)) (n25_6 (l, tk, es)) (0 : Int)
noncomputable def rev25_1 (l : Int) (tk : Tk) (es : List (List AV)) : sl25_11 := finL (g25_11 (l, tk, es)) (n25_11 (l, tk, es)) (0 : Int)
noncomputable def vev25_0 (l : Int) (tk : Tk) (es : List (List AV)) : Int := bif bif decide (l < (1 : Int)) then true else decide (l > (1000 : Int)) then (8 : Int) else bif decide ((↑es.length : Int) > (16 : Int)) then (7 : Int) else bif xc25_6_0 (rev25_0 l tk es) l tk es then (8 : Int) else bif xc25_11_0 (rev25_1 l tk es) l tk es then (12 : Int) else (0 : Int)
noncomputable def vev25_1 (l : Int) (tk : Tk) (es : List (List AV)) : Bool := bif bif decide (l < (1 : Int)) then true else decide (l > (1000 : Int)) then true else bif decide ((↑es.length : Int) > (16 : Int)) then true else bif (spI g25_6 n25_6 y25_6 z25_6 d25_6 ((l, tk, es), (0 : Int))).fst then bif xc25_6_0 (rev25_0 l tk es) l tk es then true else bif (spI g25_11 n25_11 y25_11 z25_11 d25_11 ((l, tk, es), (0 : Int))).fst then true else false else false
theorem ev25 (l : Int) (tk : Tk) (es : List (List AV)) : evFin (cfg Try.prog tab 100000 (gk k31 30) lsp25 25 ([] : List Blk).length Try.f25.ntmps) ([] : List Blk).length Try.f25.resultTypes.toList Try.f25 [.agg [.int .i64 l, .sl tk [.int .i64, .int .i64, .int .i64, .int .i64] es]] [] = bif vev25_1 l tk es then some (true, AV.int IntKind.i64 (vev25_0 l tk es), []) else none := by
  have h : evFin (cfg Try.prog tab 100000 (gk k31 30) lsp25 25 ([] : List Blk).length Try.f25.ntmps) ([] : List Blk).length Try.f25.resultTypes.toList Try.f25 [.agg [.int .i64 l, .sl tk [.int .i64, .int .i64, .int .i64, .int .i64] es]] [] = bif bif decide (l < (1 : Int)) then true else true then bif bif decide (l < (1 : Int)) then true else bif false then true else decide (l > (1000 : Int)) then some (true, AV.int IntKind.i64 (8 : Int), []) else bif decide ((↑es.length : Int) > (16 : Int)) then some (true, AV.int IntKind.i64 (7 : Int), []) else bif (spI g25_6 n25_6 y25_6 z25_6 d25_6 ((l, tk, es), (0 : Int))).fst then bif xc25_6_0 (rev25_0 l tk es) l tk es then some (true, AV.int IntKind.i64 (8 : Int), []) else bif (spI g25_11 n25_11 y25_11 z25_11 d25_11 ((l, tk, es), (0 : Int))).fst then bif xc25_11_0 (rev25_1 l tk es) l tk es then some (true, AV.int IntKind.i64 (12 : Int), []) else some (true, AV.int IntKind.i64 (0 : Int), []) else none else none else none := by kernel_rfl
  rw [h]
  clear h
  unfold vev25_0 vev25_1
  generalize ((spI g25_11 n25_11 y25_11 z25_11 d25_11 ((l, tk, es), (0 : Int))).fst) = c0
  generalize ((spI g25_6 n25_6 y25_6 z25_6 d25_6 ((l, tk, es), (0 : Int))).fst) = c1
  generalize (decide ((↑es.length : Int) > (16 : Int))) = c2
  generalize (decide (l < (1 : Int))) = c3
  generalize (decide (l > (1000 : Int))) = c4
  generalize (xc25_11_0 (rev25_1 l tk es) l tk es) = c5
  generalize (xc25_6_0 (rev25_0 l tk es) l tk es) = c6
  cases c3
  · skip
    cases c4
    · skip
      cases c2
      · skip
        cases c1
        · skip
          rfl
        · skip
          cases c6
          · skip
            cases c0
            · skip
              rfl
            · skip
              cases c5
              · skip
                rfl
              · skip
                rfl
          · skip
            rfl
      · skip
        rfl
    · skip
      rfl
  · skip
    rfl
-- spec vev25_1 l tk es ;; (true, AV.int IntKind.i64 (vev25_0 l tk es), [])
noncomputable def sp25 : List AV → List Blk → Option (Bool × AV × List Blk)
  | [.agg [.int .i64 l, .sl tk [.int .i64, .int .i64, .int .i64, .int .i64] es]], [] => spW (vev25_1 l tk es) (some ((true, AV.int IntKind.i64 (vev25_0 l tk es), [])))
  | _, _ => none
noncomputable def k25 : Gam := fun f T C => match Nat.beq f 25 with
  | true => (sp25 T C).or (k31 f T C)
  | false => k31 f T C
theorem k25_ok : GamOK Try.prog k25 := by
  intro f T C r outs h
  unfold k25 at h
  cases hf : Nat.beq f 25 with
  | false => rw [hf] at h; exact k31_ok f T C r outs h
  | true =>
    have hf' := Nat.eq_of_beq_eq_true hf
    subst hf'
    rw [hf] at h
    dsimp only at h
    cases hs : sp25 T C with
    | none => rw [hs] at h; exact k31_ok _ T C r outs h
    | some x =>
      rw [hs] at h
      have hx : x = (true, r, outs) := by simpa using h
      subst hx
      unfold sp25 at hs
      split at hs
      · rename_i l tk es
        obtain ⟨hb, rfl, rfl⟩ := spT_inv hs
        have he := ev25 l tk es
        rw [hb, cond_true] at he
        obtain ⟨r0, o0, h0, he⟩ := evFin_inv he
        obtain ⟨h1, h2⟩ := fn_ok mixed plain (gk_ok k31_ok 30) Try.func25 loops25 h0
        exact ⟨h1, h2.fin he⟩
      · cases hs
noncomputable def vev25n_0 (l : Int) : Int := bif bif decide (l < (1 : Int)) then true else decide (l > (1000 : Int)) then (8 : Int) else (0 : Int)
theorem ev25n (l : Int) : evFin (cfg Try.prog tab 100000 (gk k25 30) noLsp 25 ([] : List Blk).length Try.f25.ntmps) ([] : List Blk).length Try.f25.resultTypes.toList Try.f25 [.agg [.int .i64 l, .nil]] [] = bif true then some (true, AV.int IntKind.i64 (vev25n_0 l), []) else none := by
  have h : evFin (cfg Try.prog tab 100000 (gk k25 30) noLsp 25 ([] : List Blk).length Try.f25.ntmps) ([] : List Blk).length Try.f25.resultTypes.toList Try.f25 [.agg [.int .i64 l, .nil]] [] = bif bif decide (l < (1 : Int)) then true else true then bif bif decide (l < (1 : Int)) then true else bif false then true else decide (l > (1000 : Int)) then some (true, AV.int IntKind.i64 (8 : Int), []) else some (true, AV.int IntKind.i64 (0 : Int), []) else none := by kernel_rfl
  rw [h]
  clear h
  unfold vev25n_0
  generalize (decide (l > (1000 : Int))) = c0
  generalize (decide (l < (1 : Int))) = c1
  cases c1
  · skip
    cases c0
    · skip
      rfl
    · skip
      rfl
  · skip
    rfl
-- spec true ;; (true, AV.int IntKind.i64 (vev25n_0 l), [])
noncomputable def sp25n : List AV → List Blk → Option (Bool × AV × List Blk)
  | [.agg [.int .i64 l, .nil]], [] => spW (true) (some ((true, AV.int IntKind.i64 (vev25n_0 l), [])))
  | _, _ => none
noncomputable def k25n : Gam := fun f T C => match Nat.beq f 25 with
  | true => (sp25n T C).or (k25 f T C)
  | false => k25 f T C
theorem k25n_ok : GamOK Try.prog k25n := by
  intro f T C r outs h
  unfold k25n at h
  cases hf : Nat.beq f 25 with
  | false => rw [hf] at h; exact k25_ok f T C r outs h
  | true =>
    have hf' := Nat.eq_of_beq_eq_true hf
    subst hf'
    rw [hf] at h
    dsimp only at h
    cases hs : sp25n T C with
    | none => rw [hs] at h; exact k25_ok _ T C r outs h
    | some x =>
      rw [hs] at h
      have hx : x = (true, r, outs) := by simpa using h
      subst hx
      unfold sp25n at hs
      split at hs
      · rename_i l
        obtain ⟨hb, rfl, rfl⟩ := spT_inv hs
        have he := ev25n l
        obtain ⟨r0, o0, h0, he⟩ := evFin_inv he
        obtain ⟨h1, h2⟩ := fn_ok mixed plain (gk_ok k25_ok 30) Try.func25 (fun c _ => LoopsOK.none (fun _ _ => rfl) c) h0
        exact ⟨h1, h2.fin he⟩
      · cases hs
noncomputable def vev19_0 (l : Int) : Int := bif vev25n_0 l != (0 : Int) then (0 : Int) else l
noncomputable def vev19_1 (l : Int) : Int := bif vev25n_0 l != (0 : Int) then vev25n_0 l else (0 : Int)
theorem ev19 (l : Int) : evFin (cfg Try.prog tab 100000 (gk k25n 30) noLsp 19 ([] : List Blk).length Try.f19.ntmps) ([] : List Blk).length Try.f19.resultTypes.toList Try.f19 [.int .i64 l] [] = some (true, AV.tup [AV.agg [AV.int IntKind.i64 (vev19_0 l), AV.sl Tk.imm [Kd.int IntKind.i64, Kd.int IntKind.i64, Kd.int IntKind.i64, Kd.int IntKind.i64] []], AV.int IntKind.i64 (vev19_1 l)], []) := by
  have h : evFin (cfg Try.prog tab 100000 (gk k25n 30) noLsp 19 ([] : List Blk).length Try.f19.ntmps) ([] : List Blk).length Try.f19.resultTypes.toList Try.f19 [.int .i64 l] [] = bif vev25n_0 l != (0 : Int) then some (true, AV.tup [AV.agg [AV.int IntKind.i64 (0 : Int), AV.sl Tk.imm [Kd.int IntKind.i64, Kd.int IntKind.i64, Kd.int IntKind.i64, Kd.int IntKind.i64] []], AV.int IntKind.i64 (vev25n_0 l)], []) else some (true, AV.tup [AV.agg [AV.int IntKind.i64 l, AV.sl Tk.imm [Kd.int IntKind.i64, Kd.int IntKind.i64, Kd.int IntKind.i64, Kd.int IntKind.i64] []], AV.int IntKind.i64 (0 : Int)], []) := by kernel_rfl
  rw [h]
  clear h
  unfold vev19_0 vev19_1
  generalize (vev25n_0 l != (0 : Int)) = c0
  cases c0
  · skip
    rfl
  · skip
    rfl
-- spec true ;; (true, AV.tup [AV.agg [AV.int IntKind.i64 (vev19_0 l), AV.sl Tk.imm [Kd.int IntKind.i64, Kd.int IntKind.i64, Kd.int IntKind.i64, Kd.int IntKind.i64] []], AV.int IntKind.i64 (vev19_1 l)], [])
noncomputable def sp19 : List AV → List Blk → Option (Bool × AV × List Blk)
  | [.int .i64 l], [] => spW (true) (some ((true, AV.tup [AV.agg [AV.int IntKind.i64 (vev19_0 l), AV.sl Tk.imm [Kd.int IntKind.i64, Kd.int IntKind.i64, Kd.int IntKind.i64, Kd.int IntKind.i64] []], AV.int IntKind.i64 (vev19_1 l)], [])))
  | _, _ => none
noncomputable def k19 : Gam := fun f T C => match Nat.beq f 19 with
  | true => (sp19 T C).or (k25n f T C)
  | false => k25n f T C
theorem k19_ok : GamOK Try.prog k19 := by
  intro f T C r outs h
  unfold k19 at h
  cases hf : Nat.beq f 19 with
  | false => rw [hf] at h; exact k25n_ok f T C r outs h
  | true =>
    have hf' := Nat.eq_of_beq_eq_true hf
    subst hf'
    rw [hf] at h
    dsimp only at h
    cases hs : sp19 T C with
    | none => rw [hs] at h; exact k25n_ok _ T C r outs h
    | some x =>
      rw [hs] at h
      have hx : x = (true, r, outs) := by simpa using h
      subst hx
      unfold sp19 at hs
      split at hs
      · rename_i l
        obtain ⟨hb, rfl, rfl⟩ := spT_inv hs
        have he := ev19 l
        obtain ⟨r0, o0, h0, he⟩ := evFin_inv he
        obtain ⟨h1, h2⟩ := fn_ok mixed plain (gk_ok k25n_ok 30) Try.func19 (fun c _ => LoopsOK.none (fun _ _ => rfl) c) h0
        exact ⟨h1, h2.fin he⟩
      · cases hs
noncomputable def go23_3 (t3 : Int) (t4 : Int) (b0_0 : Int) (b0_1k : Tk) (b0_1 : List (List AV)) : Bool := bif bif decide (t4 < (↑b0_1.length : Int)) then vev25_1 b0_0 b0_1k b0_1 else true then bif bif decide (t4 < (↑b0_1.length : Int)) then bif vev25_1 b0_0 b0_1k b0_1 then vev25_0 b0_0 b0_1k b0_1 == (0 : Int) else false else false then decide ((0 : Int) ≤ t4) && decide (t4 < (↑b0_1.length : Int)) else false else false
noncomputable def nx23_3_0 (t3 : Int) (t4 : Int) (b0_0 : Int) (b0_1k : Tk) (b0_1 : List (List AV)) : Int := IntKind.i64.wrap (t3 + intOf ((b0_1.getD t4.toNat []).getD ((0 : Nat) + (1 : Nat) + (1 : Nat)) AV.junk))
noncomputable def nx23_3_1 (t3 : Int) (t4 : Int) (b0_0 : Int) (b0_1k : Tk) (b0_1 : List (List AV)) : Int := IntKind.i64.wrap (t4 + (1 : Int))
noncomputable def xc23_3_0 (t3 : Int) (t4 : Int) (b0_0 : Int) (b0_1k : Tk) (b0_1 : List (List AV)) : Bool := bif bif decide (t4 < (↑b0_1.length : Int)) then vev25_1 b0_0 b0_1k b0_1 else true then bif bif decide (t4 < (↑b0_1.length : Int)) then bif vev25_1 b0_0 b0_1k b0_1 then vev25_0 b0_0 b0_1k b0_1 == (0 : Int) else false else false then false else true else false
theorem rd23_3 (rest : Lsp) (t3 : Int) (t4 : Int) (b0_0 : Int) (b0_1k : Tk) (b0_1 : List (List AV)) : roundV (cfg Try.prog tab 100000 (gk k19 30) rest 23 0 Try.f23.ntmps) (loopAt Try.f23 3) [1, 3, 4] [0] [3] [] [AV.hp (nat_lit 0) (nat_lit 0), AV.int IntKind.i64 t3, AV.int IntKind.i64 t4] [Blk.var [AV.int IntKind.i64 b0_0, AV.sl b0_1k [Kd.int IntKind.i64, Kd.int IntKind.i64, Kd.int IntKind.i64, Kd.int IntKind.i64] b0_1]] = bif go23_3 t3 t4 b0_0 b0_1k b0_1 then some (Ex.norm, [AV.hp (nat_lit 0) (nat_lit 0), AV.int IntKind.i64 (nx23_3_0 t3 t4 b0_0 b0_1k b0_1), AV.int IntKind.i64 (nx23_3_1 t3 t4 b0_0 b0_1k b0_1)], [Blk.var [AV.int IntKind.i64 b0_0, AV.sl b0_1k [Kd.int IntKind.i64, Kd.int IntKind.i64, Kd.int IntKind.i64, Kd.int IntKind.i64] b0_1]]) else bif xc23_3_0 t3 t4 b0_0 b0_1k b0_1 then some (Ex.exit (nat_lit 0), [AV.int IntKind.i64 t3], []) else none := by
  have h : roundV (cfg Try.prog tab 100000 (gk k19 30) rest 23 0 Try.f23.ntmps) (loopAt Try.f23 3) [1, 3, 4] [0] [3] [] [AV.hp (nat_lit 0) (nat_lit 0), AV.int IntKind.i64 t3, AV.int IntKind.i64 t4] [Blk.var [AV.int IntKind.i64 b0_0, AV.sl b0_1k [Kd.int IntKind.i64, Kd.int IntKind.i64, Kd.int IntKind.i64, Kd.int IntKind.i64] b0_1]] = bif bif decide (t4 < (↑b0_1.length : Int)) then bif vev25_1 b0_0 b0_1k b0_1 then true else false else true then bif bif decide (t4 < (↑b0_1.length : Int)) then bif vev25_1 b0_0 b0_1k b0_1 then bif true then vev25_0 b0_0 b0_1k b0_1 == (0 : Int) else false else false else false then bif decide ((0 : Int) ≤ t4) && decide (t4 < (↑b0_1.length : Int)) then some (Ex.norm, [AV.hp (nat_lit 0) (nat_lit 0), AV.int IntKind.i64 (IntKind.i64.wrap (t3 + intOf ((b0_1.getD t4.toNat []).getD ((0 : Nat) + (1 : Nat) + (1 : Nat)) AV.junk))), AV.int IntKind.i64 (IntKind.i64.wrap (t4 + (1 : Int)))], [Blk.var [AV.int IntKind.i64 b0_0, AV.sl b0_1k [Kd.int IntKind.i64, Kd.int IntKind.i64, Kd.int IntKind.i64, Kd.int IntKind.i64] b0_1]]) else none else some (Ex.exit (nat_lit 0), [AV.int IntKind.i64 t3], []) else none := by kernel_rfl
  rw [h]
  clear h
  unfold go23_3 nx23_3_0 nx23_3_1 xc23_3_0
  generalize (decide ((0 : Int) ≤ t4) && decide (t4 < (↑b0_1.length : Int))) = c0
  generalize (decide (t4 < (↑b0_1.length : Int))) = c1
  generalize (vev25_0 b0_0 b0_1k b0_1 == (0 : Int)) = c2
  generalize (vev25_1 b0_0 b0_1k b0_1) = c3
  cases c1
  · skip
    rfl
  · skip
    cases c3
    · skip
      rfl
    · skip
      cases c2
      · skip
        rfl
      · skip
        cases c0
        · skip
          rfl
        · skip
          rfl
abbrev pl23_3 : Type := Int × Tk × (List (List AV))
abbrev sl23_3 : Type := Int × Int
noncomputable def vt23_3 (a : pl23_3 × sl23_3) : List AV := [AV.hp (nat_lit 0) (nat_lit 0), AV.int IntKind.i64 a.2.1, AV.int IntKind.i64 a.2.2]
noncomputable def vc23_3 (a : pl23_3 × sl23_3) : List Blk := [Blk.var [AV.int IntKind.i64 a.1.1, AV.sl a.1.2.1 [Kd.int IntKind.i64, Kd.int IntKind.i64, Kd.int IntKind.i64, Kd.int IntKind.i64] a.1.2.2]]
noncomputable def de23_3 (vt : List AV) (vc : List Blk) : Option (pl23_3 × sl23_3) :=
  match vt with
  | [qa0, qa1, qa2] => (match vc with
  | [qb0] => (match qa0 with
  | AV.hp (0) (0) => (match qa1 with
  | AV.int IntKind.i64 t3 => (match qa2 with
  | AV.int IntKind.i64 t4 => (match qb0 with
  | Blk.var [AV.int IntKind.i64 b0_0, AV.sl b0_1k [Kd.int IntKind.i64, Kd.int IntKind.i64, Kd.int IntKind.i64, Kd.int IntKind.i64] b0_1] => (some ((b0_0, b0_1k, b0_1), (t3, t4)))
  | _ => none)
  | _ => none)
  | _ => none)
  | _ => none)
  | _ => none)
  | _ => none
theorem de23_3_ok (vt : List AV) (vc : List Blk) (a : pl23_3 × sl23_3) (h : de23_3 vt vc = some a) : vt = vt23_3 a ∧ vc = vc23_3 a := by
  unfold de23_3 at h
  split at h
  rotate_left
  · cases h
  split at h
  rotate_left
  · cases h
  split at h
  rotate_left
  · cases h
  split at h
  rotate_left
  · cases h
  split at h
  rotate_left
  · cases h
  split at h
  rotate_left
  · cases h
  injection h with h
  subst h
  exact ⟨rfl, rfl⟩
noncomputable def g23_3 (p : pl23_3) (s : sl23_3) : Bool := go23_3 s.1 s.2 p.1 p.2.1 p.2.2
noncomputable def n23_3 (p : pl23_3) (s : sl23_3) : sl23_3 := (nx23_3_0 s.1 s.2 p.1 p.2.1 p.2.2, nx23_3_1 s.1 s.2 p.1 p.2.1 p.2.2)
noncomputable def y23_3 (p : pl23_3) (s : sl23_3) : List (Bool × Out) := []
noncomputable def z23_3 (p : pl23_3) (s : sl23_3) : Bool := xc23_3_0 s.1 s.2 p.1 p.2.1 p.2.2
noncomputable def d23_3 (p : pl23_3) (s : sl23_3) : Out := (Ex.exit (nat_lit 0), [AV.int IntKind.i64 s.1], [])
noncomputable def ls23_3 : St → Option (Bool × List (Bool × Ex × St) × Ex × St) := lspOf [1, 3, 4] [0] [3] [] Try.f23.ntmps (0 + tab.nid 23) de23_3 (spI g23_3 n23_3 y23_3 z23_3 d23_3)
theorem lo23_3 (rest : Lsp) : LoopOK1 (cfg Try.prog tab 100000 (gk k19 30) (selL 3 ls23_3 rest) 23 0 Try.f23.ntmps) (loopAt Try.f23 3) := LoopOK1.iter (i := 3) (by kernel_rfl) [1, 3, 4] [0] [3] [] vt23_3 vc23_3 de23_3 g23_3 n23_3 y23_3 z23_3 d23_3 (fun _ => rfl) de23_3_ok (fun p s => rd23_3 (selL 3 ls23_3 rest) (s.1) (s.2) (p.1) (p.2.1) (p.2.2)) (fun _ _ => rfl)
noncomputable def lsp23 : Lsp := (selL 3 ls23_3 noLsp)
theorem loops23 : ∀ c, Try.f23.body = some c → LoopsOK (cfg Try.prog tab 100000 (gk k19 30) lsp23 23 0 Try.f23.ntmps) c := loops_of [3] (by kernel_rfl) (by kernel_rfl) (fun i hi => by
  simp only [List.mem_cons, List.not_mem_nil, or_false] at hi
  subst hi
  · exact lo23_3 noLsp)
noncomputable def rev23_0 (l : Int) (tk : Tk) (es : List (List AV)) : sl23_3 := finL (g23_3 (l, tk, es)) (n23_3 (l, tk, es)) ((0 : Int), (0 : Int))
noncomputable def vev23_0 (l : Int) (tk : Tk) (es : List (List AV)) : Int := (rev23_0 l tk es).fst
noncomputable def vev23_1 (l : Int) (tk : Tk) (es : List (List AV)) : Bool := bif (spI g23_3 n23_3 y23_3 z23_3 d23_3 ((l, tk, es), (0 : Int), (0 : Int))).fst then true else false
theorem ev23 (l : Int) (tk : Tk) (es : List (List AV)) : evFin (cfg Try.prog tab 100000 (gk k19 30) lsp23 23 ([] : List Blk).length Try.f23.ntmps) ([] : List Blk).length Try.f23.resultTypes.toList Try.f23 [.agg [.int .i64 l, .sl tk [.int .i64, .int .i64, .int .i64, .int .i64] es]] [] = bif vev23_1 l tk es then some (true, AV.int IntKind.i64 (vev23_0 l tk es), []) else none := by
  have h : evFin (cfg Try.prog tab 100000 (gk k19 30) lsp23 23 ([] : List Blk).length Try.f23.ntmps) ([] : List Blk).length Try.f23.resultTypes.toList Try.f23 [.agg [.int .i64 l, .sl tk [.int .i64, .int .i64, .int .i64, .int .i64] es]] [] = bif (spI g23_3 n23_3 y23_3 z23_3 d23_3 ((l, tk, es), (0 : Int), (0 : Int))).fst then some (true, AV.int IntKind.i64 (rev23_0 l tk es).fst, []) else none := by kernel_rfl
  rw [h]
  clear h
  unfold vev23_0 vev23_1
  generalize ((spI g23_3 n23_3 y23_3 z23_3 d23_3 ((l, tk, es), (0 : Int), (0 : Int))).fst) = c0
  cases c0
  · skip
    rfl
  · skip
    rfl
-- spec vev23_1 l tk es ;; (true, AV.int IntKind.i64 (vev23_0 l tk es), [])
noncomputable def sp23 : List AV → List Blk → Option (Bool × AV × List Blk)
  | [.agg [.int .i64 l, .sl tk [.int .i64, .int .i64, .int .i64, .int .i64] es]], [] => spW (vev23_1 l tk es) (some ((true, AV.int IntKind.i64 (vev23_0 l tk es), [])))
  | _, _ => none
noncomputable def k23 : Gam := fun f T C => match Nat.beq f 23 with
  | true => (sp23 T C).or (k19 f T C)
  | false => k19 f T C
theorem k23_ok : GamOK Try.prog k23 := by
  intro f T C r outs h
  unfold k23 at h
  cases hf : Nat.beq f 23 with
  | false => rw [hf] at h; exact k19_ok f T C r outs h
  | true =>
    have hf' := Nat.eq_of_beq_eq_true hf
    subst hf'
    rw [hf] at h
    dsimp only at h
    cases hs : sp23 T C with
    | none => rw [hs] at h; exact k19_ok _ T C r outs h
    | some x =>
      rw [hs] at h
      have hx : x = (true, r, outs) := by simpa using h
      subst hx
      unfold sp23 at hs
      split at hs
      · rename_i l tk es
        obtain ⟨hb, rfl, rfl⟩ := spT_inv hs
        have he := ev23 l tk es
        rw [hb, cond_true] at he
        obtain ⟨r0, o0, h0, he⟩ := evFin_inv he
        obtain ⟨h1, h2⟩ := fn_ok mixed plain (gk_ok k19_ok 30) Try.func23 loops23 h0
        exact ⟨h1, h2.fin he⟩
      · cases hs
noncomputable def rev11_0 (l : Int) (es : List (List AV)) (id : Int) (rank : Int) (cost : Int) : List (List AV) := [[AV.int IntKind.i64 id, AV.int IntKind.i64 rank, AV.int IntKind.i64 cost, AV.int IntKind.i64 (0 : Int)]]
noncomputable def vev11_0 (l : Int) (es : List (List AV)) (id : Int) (rank : Int) (cost : Int) : List (List AV) := bif vev25_0 l Tk.imm es != (0 : Int) then es else bif !vev30_0 id rank cost (0 : Int) then es else bif decide (vev31_0 l Tk.imm es id ≥ (0 : Int)) then es else bif decide ((↑es.length : Int) ≥ (16 : Int)) then es else es ++ rev11_0 l es id rank cost
noncomputable def vev11_1 (l : Int) (es : List (List AV)) (id : Int) (rank : Int) (cost : Int) : Int := bif vev25_0 l Tk.imm es != (0 : Int) then vev25_0 l Tk.imm es else bif !vev30_0 id rank cost (0 : Int) then (8 : Int) else bif decide (vev31_0 l Tk.imm es id ≥ (0 : Int)) then (12 : Int) else bif decide ((↑es.length : Int) ≥ (16 : Int)) then (7 : Int) else (0 : Int)
noncomputable def vev11_2 (l : Int) (es : List (List AV)) (id : Int) (rank : Int) (cost : Int) : Bool := bif vev25_1 l Tk.imm es then bif vev25_0 l Tk.imm es != (0 : Int) then true else bif !vev30_0 id rank cost (0 : Int) then true else bif vev31_1 l Tk.imm es id then bif decide (vev31_0 l Tk.imm es id ≥ (0 : Int)) then true else bif decide ((↑es.length : Int) ≥ (16 : Int)) then true else bif bif decide (es.length * (32 : Nat) ≤ (140737488355328 : Nat)) then decide (es.length ≤ (9223372036854775807 : Nat)) else false then bif bif decide ((es.length + (rev11_0 l es id rank cost).length) * (32 : Nat) ≤ (140737488355328 : Nat)) then decide (es.length + (rev11_0 l es id rank cost).length ≤ (9223372036854775807 : Nat)) else false then true else false else false else false else false
theorem ev11 (l : Int) (es : List (List AV)) (id : Int) (rank : Int) (cost : Int) : evFin (cfg Try.prog tab 100000 (gk k23 30) noLsp 11 ([] : List Blk).length Try.f11.ntmps) ([] : List Blk).length Try.f11.resultTypes.toList Try.f11 [.agg [.int .i64 l, .sl .imm [.int .i64, .int .i64, .int .i64, .int .i64] es], .int .i64 id, .int .i64 rank, .int .i64 cost] [] = bif vev11_2 l es id rank cost then some (true, AV.tup [AV.agg [AV.int IntKind.i64 l, AV.sl Tk.imm [Kd.int IntKind.i64, Kd.int IntKind.i64, Kd.int IntKind.i64, Kd.int IntKind.i64] (vev11_0 l es id rank cost)], AV.int IntKind.i64 (vev11_1 l es id rank cost)], []) else none := by
  have h : evFin (cfg Try.prog tab 100000 (gk k23 30) noLsp 11 ([] : List Blk).length Try.f11.ntmps) ([] : List Blk).length Try.f11.resultTypes.toList Try.f11 [.agg [.int .i64 l, .sl .imm [.int .i64, .int .i64, .int .i64, .int .i64] es], .int .i64 id, .int .i64 rank, .int .i64 cost] [] = bif vev25_1 l Tk.imm es then bif vev25_0 l Tk.imm es != (0 : Int) then some (true, AV.tup [AV.agg [AV.int IntKind.i64 l, AV.sl Tk.imm [Kd.int IntKind.i64, Kd.int IntKind.i64, Kd.int IntKind.i64, Kd.int IntKind.i64] es], AV.int IntKind.i64 (vev25_0 l Tk.imm es)], []) else bif !vev30_0 id rank cost (0 : Int) then some (true, AV.tup [AV.agg [AV.int IntKind.i64 l, AV.sl Tk.imm [Kd.int IntKind.i64, Kd.int IntKind.i64, Kd.int IntKind.i64, Kd.int IntKind.i64] es], AV.int IntKind.i64 (8 : Int)], []) else bif vev31_1 l Tk.imm es id then bif decide (vev31_0 l Tk.imm es id ≥ (0 : Int)) then some (true, AV.tup [AV.agg [AV.int IntKind.i64 l, AV.sl Tk.imm [Kd.int IntKind.i64, Kd.int IntKind.i64, Kd.int IntKind.i64, Kd.int IntKind.i64] es], AV.int IntKind.i64 (12 : Int)], []) else bif decide ((↑es.length : Int) ≥ (16 : Int)) then some (true, AV.tup [AV.agg [AV.int IntKind.i64 l, AV.sl Tk.imm [Kd.int IntKind.i64, Kd.int IntKind.i64, Kd.int IntKind.i64, Kd.int IntKind.i64] es], AV.int IntKind.i64 (7 : Int)], []) else bif bif decide (es.length * (32 : Nat) ≤ (140737488355328 : Nat)) then decide (es.length ≤ (9223372036854775807 : Nat)) else false then bif bif decide ((es.length + (rev11_0 l es id rank cost).length) * (32 : Nat) ≤ (140737488355328 : Nat)) then decide (es.length + (rev11_0 l es id rank cost).length ≤ (9223372036854775807 : Nat)) else false then some (true, AV.tup [AV.agg [AV.int IntKind.i64 l, AV.sl Tk.imm [Kd.int IntKind.i64, Kd.int IntKind.i64, Kd.int IntKind.i64, Kd.int IntKind.i64] (es ++ rev11_0 l es id rank cost)], AV.int IntKind.i64 (0 : Int)], []) else none else none else none else none := by kernel_rfl
  rw [h]
  clear h
  unfold vev11_0 vev11_1 vev11_2
  generalize (decide ((es.length + (rev11_0 l es id rank cost).length) * (32 : Nat) ≤ (140737488355328 : Nat))) = c0
  generalize (decide (es.length + (rev11_0 l es id rank cost).length ≤ (9223372036854775807 : Nat))) = c1
  generalize (decide (es.length * (32 : Nat) ≤ (140737488355328 : Nat))) = c2
  generalize (decide ((↑es.length : Int) ≥ (16 : Int))) = c3
  generalize (decide (vev31_0 l Tk.imm es id ≥ (0 : Int))) = c4
  generalize (decide (es.length ≤ (9223372036854775807 : Nat))) = c5
  generalize (vev25_0 l Tk.imm es != (0 : Int)) = c6
  generalize (!vev30_0 id rank cost (0 : Int)) = c7
  generalize (vev31_1 l Tk.imm es id) = c8
  generalize (vev25_1 l Tk.imm es) = c9
  cases c9
  · skip
    rfl
  · skip
    cases c6
    · skip
      cases c7
      · skip
        cases c8
        · skip
          rfl
        · skip
          cases c4
          · skip
            cases c3
            · skip
              cases c2
              · skip
                rfl
              · skip
                cases c5
                · skip
                  rfl
                · skip
                  cases c0
                  · skip
                    rfl
                  · skip
                    cases c1
                    · skip
                      rfl
                    · skip
                      rfl
            · skip
              rfl
          · skip
            rfl
      · skip
        rfl
    · skip
      rfl
-- spec vev11_2 l es id rank cost ;; (true, AV.tup [AV.agg [AV.int IntKind.i64 l, AV.sl Tk.imm [Kd.int IntKind.i64, Kd.int IntKind.i64, Kd.int IntKind.i64, Kd.int IntKind.i64] (vev11_0 l es id rank cost)], AV.int IntKind.i64 (vev11_1 l es id rank cost)], [])
noncomputable def sp11 : List AV → List Blk → Option (Bool × AV × List Blk)
  | [.agg [.int .i64 l, .sl .imm [.int .i64, .int .i64, .int .i64, .int .i64] es], .int .i64 id, .int .i64 rank, .int .i64 cost], [] => spW (vev11_2 l es id rank cost) (some ((true, AV.tup [AV.agg [AV.int IntKind.i64 l, AV.sl Tk.imm [Kd.int IntKind.i64, Kd.int IntKind.i64, Kd.int IntKind.i64, Kd.int IntKind.i64] (vev11_0 l es id rank cost)], AV.int IntKind.i64 (vev11_1 l es id rank cost)], [])))
  | _, _ => none
noncomputable def k11 : Gam := fun f T C => match Nat.beq f 11 with
  | true => (sp11 T C).or (k23 f T C)
  | false => k23 f T C
theorem k11_ok : GamOK Try.prog k11 := by
  intro f T C r outs h
  unfold k11 at h
  cases hf : Nat.beq f 11 with
  | false => rw [hf] at h; exact k23_ok f T C r outs h
  | true =>
    have hf' := Nat.eq_of_beq_eq_true hf
    subst hf'
    rw [hf] at h
    dsimp only at h
    cases hs : sp11 T C with
    | none => rw [hs] at h; exact k23_ok _ T C r outs h
    | some x =>
      rw [hs] at h
      have hx : x = (true, r, outs) := by simpa using h
      subst hx
      unfold sp11 at hs
      split at hs
      · rename_i l es id rank cost
        obtain ⟨hb, rfl, rfl⟩ := spT_inv hs
        have he := ev11 l es id rank cost
        rw [hb, cond_true] at he
        obtain ⟨r0, o0, h0, he⟩ := evFin_inv he
        obtain ⟨h1, h2⟩ := fn_ok mixed plain (gk_ok k23_ok 30) Try.func11 (fun c _ => LoopsOK.none (fun _ _ => rfl) c) h0
        exact ⟨h1, h2.fin he⟩
      · cases hs
noncomputable def rev33_0 (l : Int) (es : List (List AV)) (i : Int) : Int := IntKind.i64.wrap (i + (1 : Int))
noncomputable def rev33_1 (l : Int) (es : List (List AV)) (i : Int) : List (List AV) := List.drop (rev33_0 l es i).toNat es
noncomputable def vev33_0 (l : Int) (es : List (List AV)) (i : Int) : List (List AV) := List.take i.toNat es ++ rev33_1 l es i
noncomputable def vev33_1 (l : Int) (es : List (List AV)) (i : Int) : Bool := bif bnd (0 : Int) i (↑es.length : Int) then bif bif decide ((List.take i.toNat es).length * (32 : Nat) ≤ (140737488355328 : Nat)) then decide ((List.take i.toNat es).length ≤ (9223372036854775807 : Nat)) else false then bif bnd (rev33_0 l es i) (↑es.length : Int) (↑es.length : Int) then bif bif decide (((List.take i.toNat es).length + (rev33_1 l es i).length) * (32 : Nat) ≤ (140737488355328 : Nat)) then decide ((List.take i.toNat es).length + (rev33_1 l es i).length ≤ (9223372036854775807 : Nat)) else false then true else false else false else false else false
theorem ev33 (l : Int) (es : List (List AV)) (i : Int) : evFin (cfg Try.prog tab 100000 (gk k11 30) noLsp 33 ([] : List Blk).length Try.f33.ntmps) ([] : List Blk).length Try.f33.resultTypes.toList Try.f33 [.agg [.int .i64 l, .sl .imm [.int .i64, .int .i64, .int .i64, .int .i64] es], .int .i64 i] [] = bif vev33_1 l es i then some (true, AV.agg [AV.int IntKind.i64 l, AV.sl Tk.imm [Kd.int IntKind.i64, Kd.int IntKind.i64, Kd.int IntKind.i64, Kd.int IntKind.i64] (vev33_0 l es i)], []) else none := by
  have h : evFin (cfg Try.prog tab 100000 (gk k11 30) noLsp 33 ([] : List Blk).length Try.f33.ntmps) ([] : List Blk).length Try.f33.resultTypes.toList Try.f33 [.agg [.int .i64 l, .sl .imm [.int .i64, .int .i64, .int .i64, .int .i64] es], .int .i64 i] [] = bif bnd (0 : Int) i (↑es.length : Int) then bif bif decide ((List.take i.toNat es).length * (32 : Nat) ≤ (140737488355328 : Nat)) then decide ((List.take i.toNat es).length ≤ (9223372036854775807 : Nat)) else false then bif bnd (rev33_0 l es i) (↑es.length : Int) (↑es.length : Int) then bif bif decide (((List.take i.toNat es).length + (rev33_1 l es i).length) * (32 : Nat) ≤ (140737488355328 : Nat)) then decide ((List.take i.toNat es).length + (rev33_1 l es i).length ≤ (9223372036854775807 : Nat)) else false then some (true, AV.agg [AV.int IntKind.i64 l, AV.sl Tk.imm [Kd.int IntKind.i64, Kd.int IntKind.i64, Kd.int IntKind.i64, Kd.int IntKind.i64] (List.take i.toNat es ++ rev33_1 l es i)], []) else none else none else none else none := by kernel_rfl
  rw [h]
  clear h
  unfold vev33_0 vev33_1
  generalize (decide (((List.take i.toNat es).length + (rev33_1 l es i).length) * (32 : Nat) ≤ (140737488355328 : Nat))) = c0
  generalize (decide ((List.take i.toNat es).length + (rev33_1 l es i).length ≤ (9223372036854775807 : Nat))) = c1
  generalize (decide ((List.take i.toNat es).length * (32 : Nat) ≤ (140737488355328 : Nat))) = c2
  generalize (decide ((List.take i.toNat es).length ≤ (9223372036854775807 : Nat))) = c3
  generalize (bnd (rev33_0 l es i) (↑es.length : Int) (↑es.length : Int)) = c4
  generalize (bnd (0 : Int) i (↑es.length : Int)) = c5
  cases c5
  · skip
    rfl
  · skip
    cases c2
    · skip
      rfl
    · skip
      cases c3
      · skip
        rfl
      · skip
        cases c4
        · skip
          rfl
        · skip
          cases c0
          · skip
            rfl
          · skip
            cases c1
            · skip
              rfl
            · skip
              rfl
-- spec vev33_1 l es i ;; (true, AV.agg [AV.int IntKind.i64 l, AV.sl Tk.imm [Kd.int IntKind.i64, Kd.int IntKind.i64, Kd.int IntKind.i64, Kd.int IntKind.i64] (vev33_0 l es i)], [])
noncomputable def sp33 : List AV → List Blk → Option (Bool × AV × List Blk)
  | [.agg [.int .i64 l, .sl .imm [.int .i64, .int .i64, .int .i64, .int .i64] es], .int .i64 i], [] => spW (vev33_1 l es i) (some ((true, AV.agg [AV.int IntKind.i64 l, AV.sl Tk.imm [Kd.int IntKind.i64, Kd.int IntKind.i64, Kd.int IntKind.i64, Kd.int IntKind.i64] (vev33_0 l es i)], [])))
  | _, _ => none
noncomputable def k33 : Gam := fun f T C => match Nat.beq f 33 with
  | true => (sp33 T C).or (k11 f T C)
  | false => k11 f T C
theorem k33_ok : GamOK Try.prog k33 := by
  intro f T C r outs h
  unfold k33 at h
  cases hf : Nat.beq f 33 with
  | false => rw [hf] at h; exact k11_ok f T C r outs h
  | true =>
    have hf' := Nat.eq_of_beq_eq_true hf
    subst hf'
    rw [hf] at h
    dsimp only at h
    cases hs : sp33 T C with
    | none => rw [hs] at h; exact k11_ok _ T C r outs h
    | some x =>
      rw [hs] at h
      have hx : x = (true, r, outs) := by simpa using h
      subst hx
      unfold sp33 at hs
      split at hs
      · rename_i l es i
        obtain ⟨hb, rfl, rfl⟩ := spT_inv hs
        have he := ev33 l es i
        rw [hb, cond_true] at he
        obtain ⟨r0, o0, h0, he⟩ := evFin_inv he
        obtain ⟨h1, h2⟩ := fn_ok mixed plain (gk_ok k11_ok 30) Try.func33 (fun c _ => LoopsOK.none (fun _ _ => rfl) c) h0
        exact ⟨h1, h2.fin he⟩
      · cases hs
noncomputable def rev33l_0 (l : Int) (es : List (List AV)) (i : Int) : Int := IntKind.i64.wrap (i + (1 : Int))
noncomputable def rev33l_1 (l : Int) (es : List (List AV)) (i : Int) : List (List AV) := List.drop (rev33l_0 l es i).toNat es
noncomputable def vev33l_0 (l : Int) (es : List (List AV)) (i : Int) : List (List AV) := List.take i.toNat es ++ rev33l_1 l es i
noncomputable def vev33l_1 (l : Int) (es : List (List AV)) (i : Int) : Bool := bif bnd (0 : Int) i (↑es.length : Int) then bif bif decide ((List.take i.toNat es).length * (32 : Nat) ≤ (140737488355328 : Nat)) then decide ((List.take i.toNat es).length ≤ (9223372036854775807 : Nat)) else false then bif bnd (rev33l_0 l es i) (↑es.length : Int) (↑es.length : Int) then bif bif decide (((List.take i.toNat es).length + (rev33l_1 l es i).length) * (32 : Nat) ≤ (140737488355328 : Nat)) then decide ((List.take i.toNat es).length + (rev33l_1 l es i).length ≤ (9223372036854775807 : Nat)) else false then true else false else false else false else false
theorem ev33l (l : Int) (es : List (List AV)) (i : Int) : evFin (cfg Try.prog tab 100000 (gk k33 30) noLsp 33 ([] : List Blk).length Try.f33.ntmps) ([] : List Blk).length Try.f33.resultTypes.toList Try.f33 [.agg [.int .i64 l, .sl .lent [.int .i64, .int .i64, .int .i64, .int .i64] es], .int .i64 i] [] = bif vev33l_1 l es i then some (true, AV.agg [AV.int IntKind.i64 l, AV.sl Tk.imm [Kd.int IntKind.i64, Kd.int IntKind.i64, Kd.int IntKind.i64, Kd.int IntKind.i64] (vev33l_0 l es i)], []) else none := by
  have h : evFin (cfg Try.prog tab 100000 (gk k33 30) noLsp 33 ([] : List Blk).length Try.f33.ntmps) ([] : List Blk).length Try.f33.resultTypes.toList Try.f33 [.agg [.int .i64 l, .sl .lent [.int .i64, .int .i64, .int .i64, .int .i64] es], .int .i64 i] [] = bif bnd (0 : Int) i (↑es.length : Int) then bif bif decide ((List.take i.toNat es).length * (32 : Nat) ≤ (140737488355328 : Nat)) then decide ((List.take i.toNat es).length ≤ (9223372036854775807 : Nat)) else false then bif bnd (rev33l_0 l es i) (↑es.length : Int) (↑es.length : Int) then bif bif decide (((List.take i.toNat es).length + (rev33l_1 l es i).length) * (32 : Nat) ≤ (140737488355328 : Nat)) then decide ((List.take i.toNat es).length + (rev33l_1 l es i).length ≤ (9223372036854775807 : Nat)) else false then some (true, AV.agg [AV.int IntKind.i64 l, AV.sl Tk.imm [Kd.int IntKind.i64, Kd.int IntKind.i64, Kd.int IntKind.i64, Kd.int IntKind.i64] (List.take i.toNat es ++ rev33l_1 l es i)], []) else none else none else none else none := by kernel_rfl
  rw [h]
  clear h
  unfold vev33l_0 vev33l_1
  generalize (decide (((List.take i.toNat es).length + (rev33l_1 l es i).length) * (32 : Nat) ≤ (140737488355328 : Nat))) = c0
  generalize (decide ((List.take i.toNat es).length + (rev33l_1 l es i).length ≤ (9223372036854775807 : Nat))) = c1
  generalize (decide ((List.take i.toNat es).length * (32 : Nat) ≤ (140737488355328 : Nat))) = c2
  generalize (decide ((List.take i.toNat es).length ≤ (9223372036854775807 : Nat))) = c3
  generalize (bnd (rev33l_0 l es i) (↑es.length : Int) (↑es.length : Int)) = c4
  generalize (bnd (0 : Int) i (↑es.length : Int)) = c5
  cases c5
  · skip
    rfl
  · skip
    cases c2
    · skip
      rfl
    · skip
      cases c3
      · skip
        rfl
      · skip
        cases c4
        · skip
          rfl
        · skip
          cases c0
          · skip
            rfl
          · skip
            cases c1
            · skip
              rfl
            · skip
              rfl
-- spec vev33l_1 l es i ;; (true, AV.agg [AV.int IntKind.i64 l, AV.sl Tk.imm [Kd.int IntKind.i64, Kd.int IntKind.i64, Kd.int IntKind.i64, Kd.int IntKind.i64] (vev33l_0 l es i)], [])
noncomputable def sp33l : List AV → List Blk → Option (Bool × AV × List Blk)
  | [.agg [.int .i64 l, .sl .lent [.int .i64, .int .i64, .int .i64, .int .i64] es], .int .i64 i], [] => spW (vev33l_1 l es i) (some ((true, AV.agg [AV.int IntKind.i64 l, AV.sl Tk.imm [Kd.int IntKind.i64, Kd.int IntKind.i64, Kd.int IntKind.i64, Kd.int IntKind.i64] (vev33l_0 l es i)], [])))
  | _, _ => none
noncomputable def k33l : Gam := fun f T C => match Nat.beq f 33 with
  | true => (sp33l T C).or (k33 f T C)
  | false => k33 f T C
theorem k33l_ok : GamOK Try.prog k33l := by
  intro f T C r outs h
  unfold k33l at h
  cases hf : Nat.beq f 33 with
  | false => rw [hf] at h; exact k33_ok f T C r outs h
  | true =>
    have hf' := Nat.eq_of_beq_eq_true hf
    subst hf'
    rw [hf] at h
    dsimp only at h
    cases hs : sp33l T C with
    | none => rw [hs] at h; exact k33_ok _ T C r outs h
    | some x =>
      rw [hs] at h
      have hx : x = (true, r, outs) := by simpa using h
      subst hx
      unfold sp33l at hs
      split at hs
      · rename_i l es i
        obtain ⟨hb, rfl, rfl⟩ := spT_inv hs
        have he := ev33l l es i
        rw [hb, cond_true] at he
        obtain ⟨r0, o0, h0, he⟩ := evFin_inv he
        obtain ⟨h1, h2⟩ := fn_ok mixed plain (gk_ok k33_ok 30) Try.func33 (fun c _ => LoopsOK.none (fun _ _ => rfl) c) h0
        exact ⟨h1, h2.fin he⟩
      · cases hs
noncomputable def vev13_0 (l : Int) (es : List (List AV)) (id : Int) : List (List AV) := bif bif vev25_1 l Tk.imm es then bif vev25_0 l Tk.imm es != (0 : Int) then true else decide (vev31_0 l Tk.imm es id < (0 : Int)) else false then es else vev33_0 l es (vev31_0 l Tk.imm es id)
noncomputable def vev13_1 (l : Int) (es : List (List AV)) (id : Int) : Bool := bif bif vev25_1 l Tk.imm es then bif vev25_0 l Tk.imm es != (0 : Int) then true else decide (vev31_0 l Tk.imm es id < (0 : Int)) else false then false else true
noncomputable def vev13_2 (l : Int) (es : List (List AV)) (id : Int) : Bool := bif vev31_1 l Tk.imm es id then bif vev25_1 l Tk.imm es then bif bif vev25_1 l Tk.imm es then bif vev25_0 l Tk.imm es != (0 : Int) then true else decide (vev31_0 l Tk.imm es id < (0 : Int)) else false then true else bif vev33_1 l es (vev31_0 l Tk.imm es id) then true else false else false else false
theorem ev13 (l : Int) (es : List (List AV)) (id : Int) : evFin (cfg Try.prog tab 100000 (gk k33l 30) noLsp 13 ([] : List Blk).length Try.f13.ntmps) ([] : List Blk).length Try.f13.resultTypes.toList Try.f13 [.agg [.int .i64 l, .sl .imm [.int .i64, .int .i64, .int .i64, .int .i64] es], .int .i64 id] [] = bif vev13_2 l es id then some (true, AV.tup [AV.agg [AV.int IntKind.i64 l, AV.sl Tk.imm [Kd.int IntKind.i64, Kd.int IntKind.i64, Kd.int IntKind.i64, Kd.int IntKind.i64] (vev13_0 l es id)], AV.bool (vev13_1 l es id)], []) else none := by
  have h : evFin (cfg Try.prog tab 100000 (gk k33l 30) noLsp 13 ([] : List Blk).length Try.f13.ntmps) ([] : List Blk).length Try.f13.resultTypes.toList Try.f13 [.agg [.int .i64 l, .sl .imm [.int .i64, .int .i64, .int .i64, .int .i64] es], .int .i64 id] [] = bif vev31_1 l Tk.imm es id then bif bif vev25_1 l Tk.imm es then bif vev25_0 l Tk.imm es != (0 : Int) then true else true else false then bif bif vev25_1 l Tk.imm es then bif vev25_0 l Tk.imm es != (0 : Int) then true else bif false then true else decide (vev31_0 l Tk.imm es id < (0 : Int)) else false then some (true, AV.tup [AV.agg [AV.int IntKind.i64 l, AV.sl Tk.imm [Kd.int IntKind.i64, Kd.int IntKind.i64, Kd.int IntKind.i64, Kd.int IntKind.i64] es], AV.bool false], []) else bif vev33_1 l es (vev31_0 l Tk.imm es id) then some (true, AV.tup [AV.agg [AV.int IntKind.i64 l, AV.sl Tk.imm [Kd.int IntKind.i64, Kd.int IntKind.i64, Kd.int IntKind.i64, Kd.int IntKind.i64] (vev33_0 l es (vev31_0 l Tk.imm es id))], AV.bool true], []) else none else none else none := by kernel_rfl
  rw [h]
  clear h
  unfold vev13_0 vev13_1 vev13_2
  generalize (decide (vev31_0 l Tk.imm es id < (0 : Int))) = c0
  generalize (vev25_0 l Tk.imm es != (0 : Int)) = c1
  generalize (vev33_1 l es (vev31_0 l Tk.imm es id)) = c2
  generalize (vev31_1 l Tk.imm es id) = c3
  generalize (vev25_1 l Tk.imm es) = c4
  cases c3
  · skip
    rfl
  · skip
    cases c4
    · skip
      rfl
    · skip
      cases c1
      · skip
        cases c0
        · skip
          cases c2
          · skip
            rfl
          · skip
            rfl
        · skip
          rfl
      · skip
        rfl
-- spec vev13_2 l es id ;; (true, AV.tup [AV.agg [AV.int IntKind.i64 l, AV.sl Tk.imm [Kd.int IntKind.i64, Kd.int IntKind.i64, Kd.int IntKind.i64, Kd.int IntKind.i64] (vev13_0 l es id)], AV.bool (vev13_1 l es id)], [])
noncomputable def sp13 : List AV → List Blk → Option (Bool × AV × List Blk)
  | [.agg [.int .i64 l, .sl .imm [.int .i64, .int .i64, .int .i64, .int .i64] es], .int .i64 id], [] => spW (vev13_2 l es id) (some ((true, AV.tup [AV.agg [AV.int IntKind.i64 l, AV.sl Tk.imm [Kd.int IntKind.i64, Kd.int IntKind.i64, Kd.int IntKind.i64, Kd.int IntKind.i64] (vev13_0 l es id)], AV.bool (vev13_1 l es id)], [])))
  | _, _ => none
noncomputable def k13 : Gam := fun f T C => match Nat.beq f 13 with
  | true => (sp13 T C).or (k33l f T C)
  | false => k33l f T C
theorem k13_ok : GamOK Try.prog k13 := by
  intro f T C r outs h
  unfold k13 at h
  cases hf : Nat.beq f 13 with
  | false => rw [hf] at h; exact k33l_ok f T C r outs h
  | true =>
    have hf' := Nat.eq_of_beq_eq_true hf
    subst hf'
    rw [hf] at h
    dsimp only at h
    cases hs : sp13 T C with
    | none => rw [hs] at h; exact k33l_ok _ T C r outs h
    | some x =>
      rw [hs] at h
      have hx : x = (true, r, outs) := by simpa using h
      subst hx
      unfold sp13 at hs
      split at hs
      · rename_i l es id
        obtain ⟨hb, rfl, rfl⟩ := spT_inv hs
        have he := ev13 l es id
        rw [hb, cond_true] at he
        obtain ⟨r0, o0, h0, he⟩ := evFin_inv he
        obtain ⟨h1, h2⟩ := fn_ok mixed plain (gk_ok k33l_ok 30) Try.func13 (fun c _ => LoopsOK.none (fun _ _ => rfl) c) h0
        exact ⟨h1, h2.fin he⟩
      · cases hs
noncomputable def rn21_4_0 (t3 : Int) (b0_0 : Int) (b0_1k : Tk) (b0_1 : List (List AV)) : Int := intOf ((b0_1.getD t3.toNat []).getD ((0 : Nat) + (1 : Nat) + (1 : Nat) + (1 : Nat)) AV.junk)
noncomputable def go21_4 (t3 : Int) (b0_0 : Int) (b0_1k : Tk) (b0_1 : List (List AV)) : Bool := bif decide (t3 < (↑b0_1.length : Int)) then bif decide ((0 : Int) ≤ t3) && decide (t3 < (↑b0_1.length : Int)) then bif decide (rn21_4_0 t3 b0_0 b0_1k b0_1 ≥ b0_0) then false else true else false else false
noncomputable def nx21_4_0 (t3 : Int) (b0_0 : Int) (b0_1k : Tk) (b0_1 : List (List AV)) : Int := IntKind.i64.wrap (t3 + (1 : Int))
noncomputable def xc21_4_0 (t3 : Int) (b0_0 : Int) (b0_1k : Tk) (b0_1 : List (List AV)) : Bool := bif decide (t3 < (↑b0_1.length : Int)) then bif decide ((0 : Int) ≤ t3) && decide (t3 < (↑b0_1.length : Int)) then decide (rn21_4_0 t3 b0_0 b0_1k b0_1 ≥ b0_0) else false else false
noncomputable def xc21_4_1 (t3 : Int) (b0_0 : Int) (b0_1k : Tk) (b0_1 : List (List AV)) : Bool := bif decide (t3 < (↑b0_1.length : Int)) then false else true
theorem rd21_4 (rest : Lsp) (t3 : Int) (b0_0 : Int) (b0_1k : Tk) (b0_1 : List (List AV)) : roundV (cfg Try.prog tab 100000 (gk k13 30) rest 21 0 Try.f21.ntmps) (loopAt Try.f21 4) [1, 3] [0] [1, 2] [0] [AV.hp (nat_lit 0) (nat_lit 0), AV.int IntKind.i64 t3] [Blk.var [AV.int IntKind.i64 b0_0, AV.sl b0_1k [Kd.int IntKind.i64, Kd.int IntKind.i64, Kd.int IntKind.i64, Kd.int IntKind.i64] b0_1]] = bif go21_4 t3 b0_0 b0_1k b0_1 then some (Ex.norm, [AV.hp (nat_lit 0) (nat_lit 0), AV.int IntKind.i64 (nx21_4_0 t3 b0_0 b0_1k b0_1)], [Blk.var [AV.int IntKind.i64 b0_0, AV.sl b0_1k [Kd.int IntKind.i64, Kd.int IntKind.i64, Kd.int IntKind.i64, Kd.int IntKind.i64] b0_1]]) else bif xc21_4_0 t3 b0_0 b0_1k b0_1 then some (Ex.ret, [AV.hp (nat_lit 0) (nat_lit 0), AV.int IntKind.i64 t3], [Blk.var [AV.int IntKind.i64 b0_0, AV.sl b0_1k [Kd.int IntKind.i64, Kd.int IntKind.i64, Kd.int IntKind.i64, Kd.int IntKind.i64] b0_1]]) else bif xc21_4_1 t3 b0_0 b0_1k b0_1 then some (Ex.exit (nat_lit 0), [AV.hp (nat_lit 0) (nat_lit 0), AV.junk], [Blk.var [AV.int IntKind.i64 b0_0, AV.sl b0_1k [Kd.int IntKind.i64, Kd.int IntKind.i64, Kd.int IntKind.i64, Kd.int IntKind.i64] b0_1]]) else none := by
  have h : roundV (cfg Try.prog tab 100000 (gk k13 30) rest 21 0 Try.f21.ntmps) (loopAt Try.f21 4) [1, 3] [0] [1, 2] [0] [AV.hp (nat_lit 0) (nat_lit 0), AV.int IntKind.i64 t3] [Blk.var [AV.int IntKind.i64 b0_0, AV.sl b0_1k [Kd.int IntKind.i64, Kd.int IntKind.i64, Kd.int IntKind.i64, Kd.int IntKind.i64] b0_1]] = bif decide (t3 < (↑b0_1.length : Int)) then bif decide ((0 : Int) ≤ t3) && decide (t3 < (↑b0_1.length : Int)) then bif decide (rn21_4_0 t3 b0_0 b0_1k b0_1 ≥ b0_0) then some (Ex.ret, [AV.hp (nat_lit 0) (nat_lit 0), AV.int IntKind.i64 t3], [Blk.var [AV.int IntKind.i64 b0_0, AV.sl b0_1k [Kd.int IntKind.i64, Kd.int IntKind.i64, Kd.int IntKind.i64, Kd.int IntKind.i64] b0_1]]) else some (Ex.norm, [AV.hp (nat_lit 0) (nat_lit 0), AV.int IntKind.i64 (IntKind.i64.wrap (t3 + (1 : Int)))], [Blk.var [AV.int IntKind.i64 b0_0, AV.sl b0_1k [Kd.int IntKind.i64, Kd.int IntKind.i64, Kd.int IntKind.i64, Kd.int IntKind.i64] b0_1]]) else none else some (Ex.exit (nat_lit 0), [AV.hp (nat_lit 0) (nat_lit 0), AV.junk], [Blk.var [AV.int IntKind.i64 b0_0, AV.sl b0_1k [Kd.int IntKind.i64, Kd.int IntKind.i64, Kd.int IntKind.i64, Kd.int IntKind.i64] b0_1]]) := by kernel_rfl
  rw [h]
  clear h
  unfold go21_4 nx21_4_0 xc21_4_0 xc21_4_1
  generalize (decide ((0 : Int) ≤ t3) && decide (t3 < (↑b0_1.length : Int))) = c0
  generalize (decide (t3 < (↑b0_1.length : Int))) = c1
  generalize (decide (rn21_4_0 t3 b0_0 b0_1k b0_1 ≥ b0_0)) = c2
  cases c1
  · skip
    rfl
  · skip
    cases c0
    · skip
      rfl
    · skip
      cases c2
      · skip
        rfl
      · skip
        rfl
abbrev pl21_4 : Type := Int × Tk × (List (List AV))
abbrev sl21_4 : Type := Int
noncomputable def vt21_4 (a : pl21_4 × sl21_4) : List AV := [AV.hp (nat_lit 0) (nat_lit 0), AV.int IntKind.i64 a.2]
noncomputable def vc21_4 (a : pl21_4 × sl21_4) : List Blk := [Blk.var [AV.int IntKind.i64 a.1.1, AV.sl a.1.2.1 [Kd.int IntKind.i64, Kd.int IntKind.i64, Kd.int IntKind.i64, Kd.int IntKind.i64] a.1.2.2]]
noncomputable def de21_4 (vt : List AV) (vc : List Blk) : Option (pl21_4 × sl21_4) :=
  match vt with
  | [qa0, qa1] => (match vc with
  | [qb0] => (match qa0 with
  | AV.hp (0) (0) => (match qa1 with
  | AV.int IntKind.i64 t3 => (match qb0 with
  | Blk.var [AV.int IntKind.i64 b0_0, AV.sl b0_1k [Kd.int IntKind.i64, Kd.int IntKind.i64, Kd.int IntKind.i64, Kd.int IntKind.i64] b0_1] => (some ((b0_0, b0_1k, b0_1), t3))
  | _ => none)
  | _ => none)
  | _ => none)
  | _ => none)
  | _ => none
theorem de21_4_ok (vt : List AV) (vc : List Blk) (a : pl21_4 × sl21_4) (h : de21_4 vt vc = some a) : vt = vt21_4 a ∧ vc = vc21_4 a := by
  unfold de21_4 at h
  split at h
  rotate_left
  · cases h
  split at h
  rotate_left
  · cases h
  split at h
  rotate_left
  · cases h
  split at h
  rotate_left
  · cases h
  split at h
  rotate_left
  · cases h
  injection h with h
  subst h
  exact ⟨rfl, rfl⟩
noncomputable def g21_4 (p : pl21_4) (s : sl21_4) : Bool := go21_4 s p.1 p.2.1 p.2.2
noncomputable def n21_4 (p : pl21_4) (s : sl21_4) : sl21_4 := nx21_4_0 s p.1 p.2.1 p.2.2
noncomputable def y21_4 (p : pl21_4) (s : sl21_4) : List (Bool × Out) := [(xc21_4_0 s p.1 p.2.1 p.2.2, (Ex.ret, [AV.hp (nat_lit 0) (nat_lit 0), AV.int IntKind.i64 s], [Blk.var [AV.int IntKind.i64 p.1, AV.sl p.2.1 [Kd.int IntKind.i64, Kd.int IntKind.i64, Kd.int IntKind.i64, Kd.int IntKind.i64] p.2.2]]))]
noncomputable def z21_4 (p : pl21_4) (s : sl21_4) : Bool := xc21_4_1 s p.1 p.2.1 p.2.2
noncomputable def d21_4 (p : pl21_4) (s : sl21_4) : Out := (Ex.exit (nat_lit 0), [AV.hp (nat_lit 0) (nat_lit 0), AV.junk], [Blk.var [AV.int IntKind.i64 p.1, AV.sl p.2.1 [Kd.int IntKind.i64, Kd.int IntKind.i64, Kd.int IntKind.i64, Kd.int IntKind.i64] p.2.2]])
noncomputable def ls21_4 : St → Option (Bool × List (Bool × Ex × St) × Ex × St) := lspOf [1, 3] [0] [1, 2] [0] Try.f21.ntmps (0 + tab.nid 21) de21_4 (spI g21_4 n21_4 y21_4 z21_4 d21_4)
theorem lo21_4 (rest : Lsp) : LoopOK1 (cfg Try.prog tab 100000 (gk k13 30) (selL 4 ls21_4 rest) 21 0 Try.f21.ntmps) (loopAt Try.f21 4) := LoopOK1.iter (i := 4) (by kernel_rfl) [1, 3] [0] [1, 2] [0] vt21_4 vc21_4 de21_4 g21_4 n21_4 y21_4 z21_4 d21_4 (fun _ => rfl) de21_4_ok (fun p s => rd21_4 (selL 4 ls21_4 rest) s (p.1) (p.2.1) (p.2.2)) (fun _ _ => rfl)
noncomputable def rn21_10_0 (t4 : Int) (t5 : Int) (b0_0 : Int) (b0_1k : Tk) (b0_1 : List (List AV)) : Int := intOf ((b0_1.getD t5.toNat []).getD ((0 : Nat) + (1 : Nat)) AV.junk)
noncomputable def rn21_10_1 (t4 : Int) (t5 : Int) (b0_0 : Int) (b0_1k : Tk) (b0_1 : List (List AV)) : Int := intOf ((b0_1.getD t4.toNat []).getD ((0 : Nat) + (1 : Nat)) AV.junk)
noncomputable def go21_10 (t4 : Int) (t5 : Int) (b0_0 : Int) (b0_1k : Tk) (b0_1 : List (List AV)) : Bool := bif decide (t5 < (↑b0_1.length : Int)) then bif decide (t4 < (0 : Int)) then true else bif decide ((0 : Int) ≤ t5) && decide (t5 < (↑b0_1.length : Int)) then decide ((0 : Int) ≤ t4) && decide (t4 < (↑b0_1.length : Int)) else false else false
noncomputable def nx21_10_0 (t4 : Int) (t5 : Int) (b0_0 : Int) (b0_1k : Tk) (b0_1 : List (List AV)) : Int := bif bif decide (t4 < (0 : Int)) then true else bif decide ((0 : Int) ≤ t5) && decide (t5 < (↑b0_1.length : Int)) then bif decide ((0 : Int) ≤ t4) && decide (t4 < (↑b0_1.length : Int)) then decide (rn21_10_0 t4 t5 b0_0 b0_1k b0_1 < rn21_10_1 t4 t5 b0_0 b0_1k b0_1) else false else false then t5 else t4
noncomputable def nx21_10_1 (t4 : Int) (t5 : Int) (b0_0 : Int) (b0_1k : Tk) (b0_1 : List (List AV)) : Int := IntKind.i64.wrap (t5 + (1 : Int))
noncomputable def xc21_10_0 (t4 : Int) (t5 : Int) (b0_0 : Int) (b0_1k : Tk) (b0_1 : List (List AV)) : Bool := bif decide (t5 < (↑b0_1.length : Int)) then false else true
theorem rd21_10 (rest : Lsp) (t4 : Int) (t5 : Int) (b0_0 : Int) (b0_1k : Tk) (b0_1 : List (List AV)) : roundV (cfg Try.prog tab 100000 (gk k13 30) (selL 4 ls21_4 rest) 21 0 Try.f21.ntmps) (loopAt Try.f21 10) [1, 4, 5] [0] [4] [] [AV.hp (nat_lit 0) (nat_lit 0), AV.int IntKind.i64 t4, AV.int IntKind.i64 t5] [Blk.var [AV.int IntKind.i64 b0_0, AV.sl b0_1k [Kd.int IntKind.i64, Kd.int IntKind.i64, Kd.int IntKind.i64, Kd.int IntKind.i64] b0_1]] = bif go21_10 t4 t5 b0_0 b0_1k b0_1 then some (Ex.norm, [AV.hp (nat_lit 0) (nat_lit 0), AV.int IntKind.i64 (nx21_10_0 t4 t5 b0_0 b0_1k b0_1), AV.int IntKind.i64 (nx21_10_1 t4 t5 b0_0 b0_1k b0_1)], [Blk.var [AV.int IntKind.i64 b0_0, AV.sl b0_1k [Kd.int IntKind.i64, Kd.int IntKind.i64, Kd.int IntKind.i64, Kd.int IntKind.i64] b0_1]]) else bif xc21_10_0 t4 t5 b0_0 b0_1k b0_1 then some (Ex.exit (nat_lit 2), [AV.int IntKind.i64 t4], []) else none := by
  have h : roundV (cfg Try.prog tab 100000 (gk k13 30) (selL 4 ls21_4 rest) 21 0 Try.f21.ntmps) (loopAt Try.f21 10) [1, 4, 5] [0] [4] [] [AV.hp (nat_lit 0) (nat_lit 0), AV.int IntKind.i64 t4, AV.int IntKind.i64 t5] [Blk.var [AV.int IntKind.i64 b0_0, AV.sl b0_1k [Kd.int IntKind.i64, Kd.int IntKind.i64, Kd.int IntKind.i64, Kd.int IntKind.i64] b0_1]] = bif decide (t5 < (↑b0_1.length : Int)) then bif bif decide (t4 < (0 : Int)) then true else bif decide ((0 : Int) ≤ t5) && decide (t5 < (↑b0_1.length : Int)) then bif decide ((0 : Int) ≤ t4) && decide (t4 < (↑b0_1.length : Int)) then true else false else false then bif bif decide (t4 < (0 : Int)) then true else bif decide ((0 : Int) ≤ t5) && decide (t5 < (↑b0_1.length : Int)) then bif decide ((0 : Int) ≤ t4) && decide (t4 < (↑b0_1.length : Int)) then bif false then true else decide (rn21_10_0 t4 t5 b0_0 b0_1k b0_1 < rn21_10_1 t4 t5 b0_0 b0_1k b0_1) else false else false then some (Ex.norm, [AV.hp (nat_lit 0) (nat_lit 0), AV.int IntKind.i64 t5, AV.int IntKind.i64 (IntKind.i64.wrap (t5 + (1 : Int)))], [Blk.var [AV.int IntKind.i64 b0_0, AV.sl b0_1k [Kd.int IntKind.i64, Kd.int IntKind.i64, Kd.int IntKind.i64, Kd.int IntKind.i64] b0_1]]) else some (Ex.norm, [AV.hp (nat_lit 0) (nat_lit 0), AV.int IntKind.i64 t4, AV.int IntKind.i64 (IntKind.i64.wrap (t5 + (1 : Int)))], [Blk.var [AV.int IntKind.i64 b0_0, AV.sl b0_1k [Kd.int IntKind.i64, Kd.int IntKind.i64, Kd.int IntKind.i64, Kd.int IntKind.i64] b0_1]]) else none else some (Ex.exit (nat_lit 2), [AV.int IntKind.i64 t4], []) := by kernel_rfl
  rw [h]
  clear h
  unfold go21_10 nx21_10_0 nx21_10_1 xc21_10_0
  generalize (decide ((0 : Int) ≤ t4) && decide (t4 < (↑b0_1.length : Int))) = c0
  generalize (decide ((0 : Int) ≤ t5) && decide (t5 < (↑b0_1.length : Int))) = c1
  generalize (decide (rn21_10_0 t4 t5 b0_0 b0_1k b0_1 < rn21_10_1 t4 t5 b0_0 b0_1k b0_1)) = c2
  generalize (decide (t5 < (↑b0_1.length : Int))) = c3
  generalize (decide (t4 < (0 : Int))) = c4
  cases c3
  · skip
    rfl
  · skip
    cases c4
    · skip
      cases c1
      · skip
        rfl
      · skip
        cases c0
        · skip
          rfl
        · skip
          cases c2
          · skip
            rfl
          · skip
            rfl
    · skip
      rfl
abbrev pl21_10 : Type := Int × Tk × (List (List AV))
abbrev sl21_10 : Type := Int × Int
noncomputable def vt21_10 (a : pl21_10 × sl21_10) : List AV := [AV.hp (nat_lit 0) (nat_lit 0), AV.int IntKind.i64 a.2.1, AV.int IntKind.i64 a.2.2]
noncomputable def vc21_10 (a : pl21_10 × sl21_10) : List Blk := [Blk.var [AV.int IntKind.i64 a.1.1, AV.sl a.1.2.1 [Kd.int IntKind.i64, Kd.int IntKind.i64, Kd.int IntKind.i64, Kd.int IntKind.i64] a.1.2.2]]
noncomputable def de21_10 (vt : List AV) (vc : List Blk) : Option (pl21_10 × sl21_10) :=
  match vt with
  | [qa0, qa1, qa2] => (match vc with
  | [qb0] => (match qa0 with
  | AV.hp (0) (0) => (match qa1 with
  | AV.int IntKind.i64 t4 => (match qa2 with
  | AV.int IntKind.i64 t5 => (match qb0 with
  | Blk.var [AV.int IntKind.i64 b0_0, AV.sl b0_1k [Kd.int IntKind.i64, Kd.int IntKind.i64, Kd.int IntKind.i64, Kd.int IntKind.i64] b0_1] => (some ((b0_0, b0_1k, b0_1), (t4, t5)))
  | _ => none)
  | _ => none)
  | _ => none)
  | _ => none)
  | _ => none)
  | _ => none
theorem de21_10_ok (vt : List AV) (vc : List Blk) (a : pl21_10 × sl21_10) (h : de21_10 vt vc = some a) : vt = vt21_10 a ∧ vc = vc21_10 a := by
  unfold de21_10 at h
  split at h
  rotate_left
  · cases h
  split at h
  rotate_left
  · cases h
  split at h
  rotate_left
  · cases h
  split at h
  rotate_left
  · cases h
  split at h
  rotate_left
  · cases h
  split at h
  rotate_left
  · cases h
  injection h with h
  subst h
  exact ⟨rfl, rfl⟩
noncomputable def g21_10 (p : pl21_10) (s : sl21_10) : Bool := go21_10 s.1 s.2 p.1 p.2.1 p.2.2
noncomputable def n21_10 (p : pl21_10) (s : sl21_10) : sl21_10 := (nx21_10_0 s.1 s.2 p.1 p.2.1 p.2.2, nx21_10_1 s.1 s.2 p.1 p.2.1 p.2.2)
noncomputable def y21_10 (p : pl21_10) (s : sl21_10) : List (Bool × Out) := []
noncomputable def z21_10 (p : pl21_10) (s : sl21_10) : Bool := xc21_10_0 s.1 s.2 p.1 p.2.1 p.2.2
noncomputable def d21_10 (p : pl21_10) (s : sl21_10) : Out := (Ex.exit (nat_lit 2), [AV.int IntKind.i64 s.1], [])
noncomputable def ls21_10 : St → Option (Bool × List (Bool × Ex × St) × Ex × St) := lspOf [1, 4, 5] [0] [4] [] Try.f21.ntmps (0 + tab.nid 21) de21_10 (spI g21_10 n21_10 y21_10 z21_10 d21_10)
theorem lo21_10 (rest : Lsp) : LoopOK1 (cfg Try.prog tab 100000 (gk k13 30) (selL 4 ls21_4 (selL 10 ls21_10 rest)) 21 0 Try.f21.ntmps) (loopAt Try.f21 10) := LoopOK1.iter (i := 10) (by kernel_rfl) [1, 4, 5] [0] [4] [] vt21_10 vc21_10 de21_10 g21_10 n21_10 y21_10 z21_10 d21_10 (fun _ => rfl) de21_10_ok (fun p s => rd21_10 (selL 10 ls21_10 rest) (s.1) (s.2) (p.1) (p.2.1) (p.2.2)) (fun _ _ => rfl)
noncomputable def lsp21 : Lsp := (selL 4 ls21_4 (selL 10 ls21_10 noLsp))
theorem loops21 : ∀ c, Try.f21.body = some c → LoopsOK (cfg Try.prog tab 100000 (gk k13 30) lsp21 21 0 Try.f21.ntmps) c := loops_of [4, 10] (by kernel_rfl) (by kernel_rfl) (fun i hi => by
  simp only [List.mem_cons, List.not_mem_nil, or_false] at hi
  rcases hi with rfl | rfl
  · exact lo21_4 (selL 10 ls21_10 noLsp)
  · exact lo21_10 noLsp)
noncomputable def rev21_0 (l : Int) (tk : Tk) (es : List (List AV)) : sl21_4 := finL (g21_4 (l, tk, es)) (n21_4 (l, tk, es)) (0 : Int)
noncomputable def rev21_1 (l : Int) (tk : Tk) (es : List (List AV)) : sl21_10 := finL (g21_10 (l, tk, es)) (n21_10 (l, tk, es)) ((-1 : Int), (0 : Int))
noncomputable def vev21_0 (l : Int) (tk : Tk) (es : List (List AV)) : Int := bif vev25_0 l tk es != (0 : Int) then (-1 : Int) else bif xc21_4_0 (rev21_0 l tk es) l tk es then rev21_0 l tk es else (rev21_1 l tk es).fst
noncomputable def vev21_1 (l : Int) (tk : Tk) (es : List (List AV)) : Bool := bif vev25_1 l tk es then bif vev25_0 l tk es != (0 : Int) then true else bif (spI g21_4 n21_4 y21_4 z21_4 d21_4 ((l, tk, es), (0 : Int))).fst then bif xc21_4_0 (rev21_0 l tk es) l tk es then true else bif (spI g21_10 n21_10 y21_10 z21_10 d21_10 ((l, tk, es), (-1 : Int), (0 : Int))).fst then true else false else false else false
theorem ev21 (l : Int) (tk : Tk) (es : List (List AV)) : evFin (cfg Try.prog tab 100000 (gk k13 30) lsp21 21 ([] : List Blk).length Try.f21.ntmps) ([] : List Blk).length Try.f21.resultTypes.toList Try.f21 [.agg [.int .i64 l, .sl tk [.int .i64, .int .i64, .int .i64, .int .i64] es]] [] = bif vev21_1 l tk es then some (true, AV.int IntKind.i64 (vev21_0 l tk es), []) else none := by
  have h : evFin (cfg Try.prog tab 100000 (gk k13 30) lsp21 21 ([] : List Blk).length Try.f21.ntmps) ([] : List Blk).length Try.f21.resultTypes.toList Try.f21 [.agg [.int .i64 l, .sl tk [.int .i64, .int .i64, .int .i64, .int .i64] es]] [] = bif vev25_1 l tk es then bif vev25_0 l tk es != (0 : Int) then some (true, AV.int IntKind.i64 (-1 : Int), []) else bif (spI g21_4 n21_4 y21_4 z21_4 d21_4 ((l, tk, es), (0 : Int))).fst then bif xc21_4_0 (rev21_0 l tk es) l tk es then some (true, AV.int IntKind.i64 (rev21_0 l tk es), []) else bif (spI g21_10 n21_10 y21_10 z21_10 d21_10 ((l, tk, es), (-1 : Int), (0 : Int))).fst then some (true, AV.int IntKind.i64 (rev21_1 l tk es).fst, []) else none else none else none := by kernel_rfl
  rw [h]
  clear h
  unfold vev21_0 vev21_1
  generalize ((spI g21_10 n21_10 y21_10 z21_10 d21_10 ((l, tk, es), (-1 : Int), (0 : Int))).fst) = c0
  generalize ((spI g21_4 n21_4 y21_4 z21_4 d21_4 ((l, tk, es), (0 : Int))).fst) = c1
  generalize (vev25_0 l tk es != (0 : Int)) = c2
  generalize (xc21_4_0 (rev21_0 l tk es) l tk es) = c3
  generalize (vev25_1 l tk es) = c4
  cases c4
  · skip
    rfl
  · skip
    cases c2
    · skip
      cases c1
      · skip
        rfl
      · skip
        cases c3
        · skip
          cases c0
          · skip
            rfl
          · skip
            rfl
        · skip
          rfl
    · skip
      rfl
-- spec vev21_1 l tk es ;; (true, AV.int IntKind.i64 (vev21_0 l tk es), [])
noncomputable def sp21 : List AV → List Blk → Option (Bool × AV × List Blk)
  | [.agg [.int .i64 l, .sl tk [.int .i64, .int .i64, .int .i64, .int .i64] es]], [] => spW (vev21_1 l tk es) (some ((true, AV.int IntKind.i64 (vev21_0 l tk es), [])))
  | _, _ => none
noncomputable def k21 : Gam := fun f T C => match Nat.beq f 21 with
  | true => (sp21 T C).or (k13 f T C)
  | false => k13 f T C
theorem k21_ok : GamOK Try.prog k21 := by
  intro f T C r outs h
  unfold k21 at h
  cases hf : Nat.beq f 21 with
  | false => rw [hf] at h; exact k13_ok f T C r outs h
  | true =>
    have hf' := Nat.eq_of_beq_eq_true hf
    subst hf'
    rw [hf] at h
    dsimp only at h
    cases hs : sp21 T C with
    | none => rw [hs] at h; exact k13_ok _ T C r outs h
    | some x =>
      rw [hs] at h
      have hx : x = (true, r, outs) := by simpa using h
      subst hx
      unfold sp21 at hs
      split at hs
      · rename_i l tk es
        obtain ⟨hb, rfl, rfl⟩ := spT_inv hs
        have he := ev21 l tk es
        rw [hb, cond_true] at he
        obtain ⟨r0, o0, h0, he⟩ := evFin_inv he
        obtain ⟨h1, h2⟩ := fn_ok mixed plain (gk_ok k13_ok 30) Try.func21 loops21 h0
        exact ⟨h1, h2.fin he⟩
      · cases hs
noncomputable def rn15_7_0 (t1 : Int) (t7 : Int) (t9 : Int) (b3_0 : Int) (b3_1 : List (List AV)) (b4_0 : Int) (b5_0 : Int) (b5_1 : Int) (b5_2 : Int) (b5_3 : Int) (b6 : List (List AV)) : Int := IntKind.i64.wrap (intOf ((b6.getD t9.toNat []).getD ((0 : Nat) + (1 : Nat) + (1 : Nat) + (1 : Nat)) AV.junk) + (1 : Int))
noncomputable def go15_7 (t1 : Int) (t7 : Int) (t9 : Int) (b3_0 : Int) (b3_1 : List (List AV)) (b4_0 : Int) (b5_0 : Int) (b5_1 : Int) (b5_2 : Int) (b5_3 : Int) (b6 : List (List AV)) : Bool := bif decide (t9 < t7) then decide ((0 : Int) ≤ t9) && decide (t9 < (↑b6.length : Int)) else false
noncomputable def nx15_7_2 (t1 : Int) (t7 : Int) (t9 : Int) (b3_0 : Int) (b3_1 : List (List AV)) (b4_0 : Int) (b5_0 : Int) (b5_1 : Int) (b5_2 : Int) (b5_3 : Int) (b6 : List (List AV)) : Int := IntKind.i64.wrap (t9 + (1 : Int))
noncomputable def nx15_7_10 (t1 : Int) (t7 : Int) (t9 : Int) (b3_0 : Int) (b3_1 : List (List AV)) (b4_0 : Int) (b5_0 : Int) (b5_1 : Int) (b5_2 : Int) (b5_3 : Int) (b6 : List (List AV)) : List (List AV) := b6.set t9.toNat [AV.int IntKind.i64 (intOf ((b6.getD t9.toNat []).getD (0 : Nat) AV.junk)), AV.int IntKind.i64 (intOf ((b6.getD t9.toNat []).getD ((0 : Nat) + (1 : Nat)) AV.junk)), AV.int IntKind.i64 (intOf ((b6.getD t9.toNat []).getD ((0 : Nat) + (1 : Nat) + (1 : Nat)) AV.junk)), AV.int IntKind.i64 (if if false = true then (2000 : Int) < rn15_7_0 t1 t7 t9 b3_0 b3_1 b4_0 b5_0 b5_1 b5_2 b5_3 b6 else rn15_7_0 t1 t7 t9 b3_0 b3_1 b4_0 b5_0 b5_1 b5_2 b5_3 b6 < (2000 : Int) then rn15_7_0 t1 t7 t9 b3_0 b3_1 b4_0 b5_0 b5_1 b5_2 b5_3 b6 else (2000 : Int))]
noncomputable def xc15_7_0 (t1 : Int) (t7 : Int) (t9 : Int) (b3_0 : Int) (b3_1 : List (List AV)) (b4_0 : Int) (b5_0 : Int) (b5_1 : Int) (b5_2 : Int) (b5_3 : Int) (b6 : List (List AV)) : Bool := bif decide (t9 < t7) then false else true
theorem rd15_7 (rest : Lsp) (t1 : Int) (t7 : Int) (t9 : Int) (b3_0 : Int) (b3_1 : List (List AV)) (b4_0 : Int) (b5_0 : Int) (b5_1 : Int) (b5_2 : Int) (b5_3 : Int) (b6 : List (List AV)) : roundV (cfg Try.prog tab 100000 (gk k21 30) rest 15 0 Try.f15.ntmps) (loopAt Try.f15 7) [1, 2, 4, 5, 7, 8, 9] [2, 3, 4, 5, 6] [1, 2, 4, 5, 7, 8] [2, 3, 4, 5, 6] [AV.int IntKind.i64 t1, AV.hp (nat_lit 3) (nat_lit 0), AV.hp (nat_lit 4) (nat_lit 0), AV.hp (nat_lit 5) (nat_lit 0), AV.int IntKind.i64 t7, AV.rf (nat_lit 6) [Kd.int IntKind.i64, Kd.int IntKind.i64, Kd.int IntKind.i64, Kd.int IntKind.i64], AV.int IntKind.i64 t9] [Blk.dead, Blk.var [AV.int IntKind.i64 b3_0, AV.sl Tk.imm [Kd.int IntKind.i64, Kd.int IntKind.i64, Kd.int IntKind.i64, Kd.int IntKind.i64] b3_1], Blk.var [AV.int IntKind.i64 b4_0, AV.nil], Blk.var [AV.int IntKind.i64 b5_0, AV.int IntKind.i64 b5_1, AV.int IntKind.i64 b5_2, AV.int IntKind.i64 b5_3], Blk.row [Kd.int IntKind.i64, Kd.int IntKind.i64, Kd.int IntKind.i64, Kd.int IntKind.i64] b6] = bif go15_7 t1 t7 t9 b3_0 b3_1 b4_0 b5_0 b5_1 b5_2 b5_3 b6 then some (Ex.norm, [AV.int IntKind.i64 t1, AV.hp (nat_lit 3) (nat_lit 0), AV.hp (nat_lit 4) (nat_lit 0), AV.hp (nat_lit 5) (nat_lit 0), AV.int IntKind.i64 t7, AV.rf (nat_lit 6) [Kd.int IntKind.i64, Kd.int IntKind.i64, Kd.int IntKind.i64, Kd.int IntKind.i64], AV.int IntKind.i64 (nx15_7_2 t1 t7 t9 b3_0 b3_1 b4_0 b5_0 b5_1 b5_2 b5_3 b6)], [Blk.dead, Blk.var [AV.int IntKind.i64 b3_0, AV.sl Tk.imm [Kd.int IntKind.i64, Kd.int IntKind.i64, Kd.int IntKind.i64, Kd.int IntKind.i64] b3_1], Blk.var [AV.int IntKind.i64 b4_0, AV.nil], Blk.var [AV.int IntKind.i64 b5_0, AV.int IntKind.i64 b5_1, AV.int IntKind.i64 b5_2, AV.int IntKind.i64 b5_3], Blk.row [Kd.int IntKind.i64, Kd.int IntKind.i64, Kd.int IntKind.i64, Kd.int IntKind.i64] (nx15_7_10 t1 t7 t9 b3_0 b3_1 b4_0 b5_0 b5_1 b5_2 b5_3 b6)]) else bif xc15_7_0 t1 t7 t9 b3_0 b3_1 b4_0 b5_0 b5_1 b5_2 b5_3 b6 then some (Ex.exit (nat_lit 0), [AV.int IntKind.i64 t1, AV.hp (nat_lit 3) (nat_lit 0), AV.hp (nat_lit 4) (nat_lit 0), AV.hp (nat_lit 5) (nat_lit 0), AV.int IntKind.i64 t7, AV.rf (nat_lit 6) [Kd.int IntKind.i64, Kd.int IntKind.i64, Kd.int IntKind.i64, Kd.int IntKind.i64]], [Blk.dead, Blk.var [AV.int IntKind.i64 b3_0, AV.sl Tk.imm [Kd.int IntKind.i64, Kd.int IntKind.i64, Kd.int IntKind.i64, Kd.int IntKind.i64] b3_1], Blk.var [AV.int IntKind.i64 b4_0, AV.nil], Blk.var [AV.int IntKind.i64 b5_0, AV.int IntKind.i64 b5_1, AV.int IntKind.i64 b5_2, AV.int IntKind.i64 b5_3], Blk.row [Kd.int IntKind.i64, Kd.int IntKind.i64, Kd.int IntKind.i64, Kd.int IntKind.i64] b6]) else none := by
  have h : roundV (cfg Try.prog tab 100000 (gk k21 30) rest 15 0 Try.f15.ntmps) (loopAt Try.f15 7) [1, 2, 4, 5, 7, 8, 9] [2, 3, 4, 5, 6] [1, 2, 4, 5, 7, 8] [2, 3, 4, 5, 6] [AV.int IntKind.i64 t1, AV.hp (nat_lit 3) (nat_lit 0), AV.hp (nat_lit 4) (nat_lit 0), AV.hp (nat_lit 5) (nat_lit 0), AV.int IntKind.i64 t7, AV.rf (nat_lit 6) [Kd.int IntKind.i64, Kd.int IntKind.i64, Kd.int IntKind.i64, Kd.int IntKind.i64], AV.int IntKind.i64 t9] [Blk.dead, Blk.var [AV.int IntKind.i64 b3_0, AV.sl Tk.imm [Kd.int IntKind.i64, Kd.int IntKind.i64, Kd.int IntKind.i64, Kd.int IntKind.i64] b3_1], Blk.var [AV.int IntKind.i64 b4_0, AV.nil], Blk.var [AV.int IntKind.i64 b5_0, AV.int IntKind.i64 b5_1, AV.int IntKind.i64 b5_2, AV.int IntKind.i64 b5_3], Blk.row [Kd.int IntKind.i64, Kd.int IntKind.i64, Kd.int IntKind.i64, Kd.int IntKind.i64] b6] = bif decide (t9 < t7) then bif decide ((0 : Int) ≤ t9) && decide (t9 < (↑b6.length : Int)) then bif decide ((0 : Int) ≤ t9) && decide (t9 < (↑b6.length : Int)) then some (Ex.norm, [AV.int IntKind.i64 t1, AV.hp (nat_lit 3) (nat_lit 0), AV.hp (nat_lit 4) (nat_lit 0), AV.hp (nat_lit 5) (nat_lit 0), AV.int IntKind.i64 t7, AV.rf (nat_lit 6) [Kd.int IntKind.i64, Kd.int IntKind.i64, Kd.int IntKind.i64, Kd.int IntKind.i64], AV.int IntKind.i64 (IntKind.i64.wrap (t9 + (1 : Int)))], [Blk.dead, Blk.var [AV.int IntKind.i64 b3_0, AV.sl Tk.imm [Kd.int IntKind.i64, Kd.int IntKind.i64, Kd.int IntKind.i64, Kd.int IntKind.i64] b3_1], Blk.var [AV.int IntKind.i64 b4_0, AV.nil], Blk.var [AV.int IntKind.i64 b5_0, AV.int IntKind.i64 b5_1, AV.int IntKind.i64 b5_2, AV.int IntKind.i64 b5_3], Blk.row [Kd.int IntKind.i64, Kd.int IntKind.i64, Kd.int IntKind.i64, Kd.int IntKind.i64] (b6.set t9.toNat [AV.int IntKind.i64 (intOf ((b6.getD t9.toNat []).getD (0 : Nat) AV.junk)), AV.int IntKind.i64 (intOf ((b6.getD t9.toNat []).getD ((0 : Nat) + (1 : Nat)) AV.junk)), AV.int IntKind.i64 (intOf ((b6.getD t9.toNat []).getD ((0 : Nat) + (1 : Nat) + (1 : Nat)) AV.junk)), AV.int IntKind.i64 (if if false = true then (2000 : Int) < rn15_7_0 t1 t7 t9 b3_0 b3_1 b4_0 b5_0 b5_1 b5_2 b5_3 b6 else rn15_7_0 t1 t7 t9 b3_0 b3_1 b4_0 b5_0 b5_1 b5_2 b5_3 b6 < (2000 : Int) then rn15_7_0 t1 t7 t9 b3_0 b3_1 b4_0 b5_0 b5_1 b5_2 b5_3 b6 else (2000 : Int))])]) else none else none else some (Ex.exit (nat_lit 0), [AV.int IntKind.i64 t1, AV.hp (nat_lit 3) (nat_lit 0), AV.hp (nat_lit 4) (nat_lit 0), AV.hp (nat_lit 5) (nat_lit 0), AV.int IntKind.i64 t7, AV.rf (nat_lit 6) [Kd.int IntKind.i64, Kd.int IntKind.i64, Kd.int IntKind.i64, Kd.int IntKind.i64]], [Blk.dead, Blk.var [AV.int IntKind.i64 b3_0, AV.sl Tk.imm [Kd.int IntKind.i64, Kd.int IntKind.i64, Kd.int IntKind.i64, Kd.int IntKind.i64] b3_1], Blk.var [AV.int IntKind.i64 b4_0, AV.nil], Blk.var [AV.int IntKind.i64 b5_0, AV.int IntKind.i64 b5_1, AV.int IntKind.i64 b5_2, AV.int IntKind.i64 b5_3], Blk.row [Kd.int IntKind.i64, Kd.int IntKind.i64, Kd.int IntKind.i64, Kd.int IntKind.i64] b6]) := by kernel_rfl
  rw [h]
  clear h
  unfold go15_7 nx15_7_2 nx15_7_10 xc15_7_0
  generalize (decide ((0 : Int) ≤ t9) && decide (t9 < (↑b6.length : Int))) = c0
  generalize (decide (t9 < t7)) = c1
  cases c1
  · skip
    rfl
  · skip
    cases c0
    · skip
      rfl
    · skip
      rfl
abbrev pl15_7 : Type := Int × Int × Int × (List (List AV)) × Int × Int × Int × Int × Int
abbrev sl15_7 : Type := Int × (List (List AV))
noncomputable def vt15_7 (a : pl15_7 × sl15_7) : List AV := [AV.int IntKind.i64 a.1.1, AV.hp (nat_lit 3) (nat_lit 0), AV.hp (nat_lit 4) (nat_lit 0), AV.hp (nat_lit 5) (nat_lit 0), AV.int IntKind.i64 a.1.2.1, AV.rf (nat_lit 6) [Kd.int IntKind.i64, Kd.int IntKind.i64, Kd.int IntKind.i64, Kd.int IntKind.i64], AV.int IntKind.i64 a.2.1]
noncomputable def vc15_7 (a : pl15_7 × sl15_7) : List Blk := [Blk.dead, Blk.var [AV.int IntKind.i64 a.1.2.2.1, AV.sl Tk.imm [Kd.int IntKind.i64, Kd.int IntKind.i64, Kd.int IntKind.i64, Kd.int IntKind.i64] a.1.2.2.2.1], Blk.var [AV.int IntKind.i64 a.1.2.2.2.2.1, AV.nil], Blk.var [AV.int IntKind.i64 a.1.2.2.2.2.2.1, AV.int IntKind.i64 a.1.2.2.2.2.2.2.1, AV.int IntKind.i64 a.1.2.2.2.2.2.2.2.1, AV.int IntKind.i64 a.1.2.2.2.2.2.2.2.2], Blk.row [Kd.int IntKind.i64, Kd.int IntKind.i64, Kd.int IntKind.i64, Kd.int IntKind.i64] a.2.2]
noncomputable def de15_7 (vt : List AV) (vc : List Blk) : Option (pl15_7 × sl15_7) :=
  match vt with
  | [qa0, qa1, qa2, qa3, qa4, qa5, qa6] => (match vc with
  | [qb0, qb1, qb2, qb3, qb4] => (match qa0 with
  | AV.int IntKind.i64 t1 => (match qa1 with
  | AV.hp (3) (0) => (match qa2 with
  | AV.hp (4) (0) => (match qa3 with
  | AV.hp (5) (0) => (match qa4 with
  | AV.int IntKind.i64 t7 => (match qa5 with
  | AV.rf (6) [Kd.int IntKind.i64, Kd.int IntKind.i64, Kd.int IntKind.i64, Kd.int IntKind.i64] => (match qa6 with
  | AV.int IntKind.i64 t9 => (match qb0 with
  | Blk.dead => (match qb1 with
  | Blk.var [AV.int IntKind.i64 b3_0, AV.sl Tk.imm [Kd.int IntKind.i64, Kd.int IntKind.i64, Kd.int IntKind.i64, Kd.int IntKind.i64] b3_1] => (match qb2 with
  | Blk.var [AV.int IntKind.i64 b4_0, AV.nil] => (match qb3 with
  | Blk.var [AV.int IntKind.i64 b5_0, AV.int IntKind.i64 b5_1, AV.int IntKind.i64 b5_2, AV.int IntKind.i64 b5_3] => (match qb4 with
  | Blk.row [Kd.int IntKind.i64, Kd.int IntKind.i64, Kd.int IntKind.i64, Kd.int IntKind.i64] b6 => (some ((t1, t7, b3_0, b3_1, b4_0, b5_0, b5_1, b5_2, b5_3), (t9, b6)))
  | _ => none)
  | _ => none)
  | _ => none)
  | _ => none)
  | _ => none)
  | _ => none)
  | _ => none)
  | _ => none)
  | _ => none)
  | _ => none)
  | _ => none)
  | _ => none)
  | _ => none)
  | _ => none
theorem de15_7_ok (vt : List AV) (vc : List Blk) (a : pl15_7 × sl15_7) (h : de15_7 vt vc = some a) : vt = vt15_7 a ∧ vc = vc15_7 a := by
  unfold de15_7 at h
  split at h
  rotate_left
  · cases h
  split at h
  rotate_left
  · cases h
  split at h
  rotate_left
  · cases h
  split at h
  rotate_left
  · cases h
  split at h
  rotate_left
  · cases h
  split at h
  rotate_left
  · cases h
  split at h
  rotate_left
  · cases h
  split at h
  rotate_left
  · cases h
  split at h
  rotate_left
  · cases h
  split at h
  rotate_left
  · cases h
  split at h
  rotate_left
  · cases h
  split at h
  rotate_left
  · cases h
  split at h
  rotate_left
  · cases h
  split at h
  rotate_left
  · cases h
  injection h with h
  subst h
  exact ⟨rfl, rfl⟩
noncomputable def g15_7 (p : pl15_7) (s : sl15_7) : Bool := go15_7 p.1 p.2.1 s.1 p.2.2.1 p.2.2.2.1 p.2.2.2.2.1 p.2.2.2.2.2.1 p.2.2.2.2.2.2.1 p.2.2.2.2.2.2.2.1 p.2.2.2.2.2.2.2.2 s.2
noncomputable def n15_7 (p : pl15_7) (s : sl15_7) : sl15_7 := (nx15_7_2 p.1 p.2.1 s.1 p.2.2.1 p.2.2.2.1 p.2.2.2.2.1 p.2.2.2.2.2.1 p.2.2.2.2.2.2.1 p.2.2.2.2.2.2.2.1 p.2.2.2.2.2.2.2.2 s.2, nx15_7_10 p.1 p.2.1 s.1 p.2.2.1 p.2.2.2.1 p.2.2.2.2.1 p.2.2.2.2.2.1 p.2.2.2.2.2.2.1 p.2.2.2.2.2.2.2.1 p.2.2.2.2.2.2.2.2 s.2)
noncomputable def y15_7 (p : pl15_7) (s : sl15_7) : List (Bool × Out) := []
noncomputable def z15_7 (p : pl15_7) (s : sl15_7) : Bool := xc15_7_0 p.1 p.2.1 s.1 p.2.2.1 p.2.2.2.1 p.2.2.2.2.1 p.2.2.2.2.2.1 p.2.2.2.2.2.2.1 p.2.2.2.2.2.2.2.1 p.2.2.2.2.2.2.2.2 s.2
noncomputable def d15_7 (p : pl15_7) (s : sl15_7) : Out := (Ex.exit (nat_lit 0), [AV.int IntKind.i64 p.1, AV.hp (nat_lit 3) (nat_lit 0), AV.hp (nat_lit 4) (nat_lit 0), AV.hp (nat_lit 5) (nat_lit 0), AV.int IntKind.i64 p.2.1, AV.rf (nat_lit 6) [Kd.int IntKind.i64, Kd.int IntKind.i64, Kd.int IntKind.i64, Kd.int IntKind.i64]], [Blk.dead, Blk.var [AV.int IntKind.i64 p.2.2.1, AV.sl Tk.imm [Kd.int IntKind.i64, Kd.int IntKind.i64, Kd.int IntKind.i64, Kd.int IntKind.i64] p.2.2.2.1], Blk.var [AV.int IntKind.i64 p.2.2.2.2.1, AV.nil], Blk.var [AV.int IntKind.i64 p.2.2.2.2.2.1, AV.int IntKind.i64 p.2.2.2.2.2.2.1, AV.int IntKind.i64 p.2.2.2.2.2.2.2.1, AV.int IntKind.i64 p.2.2.2.2.2.2.2.2], Blk.row [Kd.int IntKind.i64, Kd.int IntKind.i64, Kd.int IntKind.i64, Kd.int IntKind.i64] s.2])
noncomputable def ls15_7 : St → Option (Bool × List (Bool × Ex × St) × Ex × St) := lspOf [1, 2, 4, 5, 7, 8, 9] [2, 3, 4, 5, 6] [1, 2, 4, 5, 7, 8] [2, 3, 4, 5, 6] Try.f15.ntmps (0 + tab.nid 15) de15_7 (spI g15_7 n15_7 y15_7 z15_7 d15_7)
theorem lo15_7 (rest : Lsp) : LoopOK1 (cfg Try.prog tab 100000 (gk k21 30) (selL 7 ls15_7 rest) 15 0 Try.f15.ntmps) (loopAt Try.f15 7) := LoopOK1.iter (i := 7) (by kernel_rfl) [1, 2, 4, 5, 7, 8, 9] [2, 3, 4, 5, 6] [1, 2, 4, 5, 7, 8] [2, 3, 4, 5, 6] vt15_7 vc15_7 de15_7 g15_7 n15_7 y15_7 z15_7 d15_7 (fun _ => rfl) de15_7_ok (fun p s => rd15_7 (selL 7 ls15_7 rest) (p.1) (p.2.1) (s.1) (p.2.2.1) (p.2.2.2.1) (p.2.2.2.2.1) (p.2.2.2.2.2.1) (p.2.2.2.2.2.2.1) (p.2.2.2.2.2.2.2.1) (p.2.2.2.2.2.2.2.2) (s.2)) (fun _ _ => rfl)
noncomputable def lsp15 : Lsp := (selL 7 ls15_7 noLsp)
theorem loops15 : ∀ c, Try.f15.body = some c → LoopsOK (cfg Try.prog tab 100000 (gk k21 30) lsp15 15 0 Try.f15.ntmps) c := loops_of [7] (by kernel_rfl) (by kernel_rfl) (fun i hi => by
  simp only [List.mem_cons, List.not_mem_nil, or_false] at hi
  subst hi
  · exact lo15_7 noLsp)
noncomputable def rev15_0 (l : Int) (es : List (List AV)) (quantum : Int) : sl15_7 := finL (g15_7 (quantum, vev21_0 l Tk.imm es, l, es, (0 : Int), (0 : Int), (0 : Int), (0 : Int), (0 : Int))) (n15_7 (quantum, vev21_0 l Tk.imm es, l, es, (0 : Int), (0 : Int), (0 : Int), (0 : Int), (0 : Int))) ((0 : Int), es)
noncomputable def rev15_1 (l : Int) (es : List (List AV)) (quantum : Int) : List (List AV) := (rev15_0 l es quantum).snd
noncomputable def rev15_2 (l : Int) (es : List (List AV)) (quantum : Int) : Int := (↑(rev15_1 l es quantum).length : Int)
noncomputable def rev15_3 (l : Int) (es : List (List AV)) (quantum : Int) : Int := intOf (((rev15_1 l es quantum).getD (vev21_0 l Tk.imm es).toNat []).getD ((0 : Nat) + (1 : Nat) + (1 : Nat)) AV.junk)
noncomputable def rev15_4 (l : Int) (es : List (List AV)) (quantum : Int) : Int := if if false = true then quantum < rev15_3 l es quantum else rev15_3 l es quantum < quantum then rev15_3 l es quantum else quantum
noncomputable def rev15_5 (l : Int) (es : List (List AV)) (quantum : Int) : List (List AV) := (rev15_1 l es quantum).set (vev21_0 l Tk.imm es).toNat [AV.int IntKind.i64 (intOf (((rev15_1 l es quantum).getD (vev21_0 l Tk.imm es).toNat []).getD (0 : Nat) AV.junk)), AV.int IntKind.i64 (intOf (((rev15_1 l es quantum).getD (vev21_0 l Tk.imm es).toNat []).getD ((0 : Nat) + (1 : Nat)) AV.junk)), AV.int IntKind.i64 (IntKind.i64.wrap (rev15_3 l es quantum - rev15_4 l es quantum)), AV.int IntKind.i64 (intOf (((rev15_1 l es quantum).getD (vev21_0 l Tk.imm es).toNat []).getD ((0 : Nat) + (1 : Nat) + (1 : Nat) + (1 : Nat)) AV.junk))]
noncomputable def rev15_6 (l : Int) (es : List (List AV)) (quantum : Int) : Int := (↑(rev15_5 l es quantum).length : Int)
noncomputable def rev15_7 (l : Int) (es : List (List AV)) (quantum : Int) : Int := intOf (((rev15_5 l es quantum).getD (vev21_0 l Tk.imm es).toNat []).getD ((0 : Nat) + (1 : Nat) + (1 : Nat)) AV.junk)
noncomputable def vev15_0 (l : Int) (es : List (List AV)) (quantum : Int) : List (List AV) := bif bif decide (vev21_0 l Tk.imm es < (0 : Int)) then true else decide (quantum < (1 : Int)) then es else bif decide (rev15_7 l es quantum = (0 : Int)) then vev33l_0 l (rev15_5 l es quantum) (vev21_0 l Tk.imm es) else rev15_5 l es quantum
noncomputable def vev15_1 (l : Int) (es : List (List AV)) (quantum : Int) : Int := bif bif decide (vev21_0 l Tk.imm es < (0 : Int)) then true else decide (quantum < (1 : Int)) then (0 : Int) else intOf (((rev15_5 l es quantum).getD (vev21_0 l Tk.imm es).toNat []).getD (0 : Nat) AV.junk)
noncomputable def vev15_2 (l : Int) (es : List (List AV)) (quantum : Int) : Int := bif bif decide (vev21_0 l Tk.imm es < (0 : Int)) then true else decide (quantum < (1 : Int)) then (0 : Int) else intOf (((rev15_5 l es quantum).getD (vev21_0 l Tk.imm es).toNat []).getD ((0 : Nat) + (1 : Nat)) AV.junk)
noncomputable def vev15_3 (l : Int) (es : List (List AV)) (quantum : Int) : Int := bif bif decide (vev21_0 l Tk.imm es < (0 : Int)) then true else decide (quantum < (1 : Int)) then (0 : Int) else rev15_7 l es quantum
noncomputable def vev15_4 (l : Int) (es : List (List AV)) (quantum : Int) : Int := bif bif decide (vev21_0 l Tk.imm es < (0 : Int)) then true else decide (quantum < (1 : Int)) then (0 : Int) else intOf (((rev15_5 l es quantum).getD (vev21_0 l Tk.imm es).toNat []).getD ((0 : Nat) + (1 : Nat) + (1 : Nat) + (1 : Nat)) AV.junk)
noncomputable def vev15_5 (l : Int) (es : List (List AV)) (quantum : Int) : Int := bif bif decide (vev21_0 l Tk.imm es < (0 : Int)) then true else decide (quantum < (1 : Int)) then (0 : Int) else rev15_4 l es quantum
noncomputable def vev15_6 (l : Int) (es : List (List AV)) (quantum : Int) : Bool := bif vev21_1 l Tk.imm es then bif bif decide (vev21_0 l Tk.imm es < (0 : Int)) then true else decide (quantum < (1 : Int)) then true else bif bif decide (es.length * (32 : Nat) ≤ (140737488355328 : Nat)) then decide (es.length ≤ (9223372036854775807 : Nat)) else false then bif (spI g15_7 n15_7 y15_7 z15_7 d15_7 ((quantum, vev21_0 l Tk.imm es, l, es, (0 : Int), (0 : Int), (0 : Int), (0 : Int), (0 : Int)), (0 : Int), es)).fst then bif decide ((0 : Int) ≤ vev21_0 l Tk.imm es) && decide (vev21_0 l Tk.imm es < rev15_2 l es quantum) then bif bif decide ((0 : Int) ≤ vev21_0 l Tk.imm es) then decide (vev21_0 l Tk.imm es < rev15_6 l es quantum) else false then bif decide (rev15_7 l es quantum = (0 : Int)) then bif vev33l_1 l (rev15_5 l es quantum) (vev21_0 l Tk.imm es) then true else false else true else false else false else false else false else false
theorem ev15 (l : Int) (es : List (List AV)) (quantum : Int) : evFin (cfg Try.prog tab 100000 (gk k21 30) lsp15 15 ([] : List Blk).length Try.f15.ntmps) ([] : List Blk).length Try.f15.resultTypes.toList Try.f15 [.agg [.int .i64 l, .sl .imm [.int .i64, .int .i64, .int .i64, .int .i64] es], .int .i64 quantum] [] = bif vev15_6 l es quantum then some (true, AV.tup [AV.agg [AV.int IntKind.i64 l, AV.sl Tk.imm [Kd.int IntKind.i64, Kd.int IntKind.i64, Kd.int IntKind.i64, Kd.int IntKind.i64] (vev15_0 l es quantum)], AV.agg [AV.int IntKind.i64 (vev15_1 l es quantum), AV.int IntKind.i64 (vev15_2 l es quantum), AV.int IntKind.i64 (vev15_3 l es quantum), AV.int IntKind.i64 (vev15_4 l es quantum)], AV.int IntKind.i64 (vev15_5 l es quantum)], []) else none := by
  have h : evFin (cfg Try.prog tab 100000 (gk k21 30) lsp15 15 ([] : List Blk).length Try.f15.ntmps) ([] : List Blk).length Try.f15.resultTypes.toList Try.f15 [.agg [.int .i64 l, .sl .imm [.int .i64, .int .i64, .int .i64, .int .i64] es], .int .i64 quantum] [] = bif vev21_1 l Tk.imm es then bif bif decide (vev21_0 l Tk.imm es < (0 : Int)) then true else true then bif bif decide (vev21_0 l Tk.imm es < (0 : Int)) then true else bif false then true else decide (quantum < (1 : Int)) then some (true, AV.tup [AV.agg [AV.int IntKind.i64 l, AV.sl Tk.imm [Kd.int IntKind.i64, Kd.int IntKind.i64, Kd.int IntKind.i64, Kd.int IntKind.i64] es], AV.agg [AV.int IntKind.i64 (0 : Int), AV.int IntKind.i64 (0 : Int), AV.int IntKind.i64 (0 : Int), AV.int IntKind.i64 (0 : Int)], AV.int IntKind.i64 (0 : Int)], []) else bif bif decide (es.length * (32 : Nat) ≤ (140737488355328 : Nat)) then decide (es.length ≤ (9223372036854775807 : Nat)) else false then bif (spI g15_7 n15_7 y15_7 z15_7 d15_7 ((quantum, vev21_0 l Tk.imm es, l, es, (0 : Int), (0 : Int), (0 : Int), (0 : Int), (0 : Int)), (0 : Int), es)).fst then bif decide ((0 : Int) ≤ vev21_0 l Tk.imm es) && decide (vev21_0 l Tk.imm es < rev15_2 l es quantum) then bif decide ((0 : Int) ≤ vev21_0 l Tk.imm es) && decide (vev21_0 l Tk.imm es < rev15_2 l es quantum) then bif decide ((0 : Int) ≤ vev21_0 l Tk.imm es) && decide (vev21_0 l Tk.imm es < rev15_2 l es quantum) then bif bif decide ((0 : Int) ≤ vev21_0 l Tk.imm es) then decide (vev21_0 l Tk.imm es < rev15_6 l es quantum) else false then bif decide (rev15_7 l es quantum = (0 : Int)) then bif vev33l_1 l (rev15_5 l es quantum) (vev21_0 l Tk.imm es) then some (true, AV.tup [AV.agg [AV.int IntKind.i64 l, AV.sl Tk.imm [Kd.int IntKind.i64, Kd.int IntKind.i64, Kd.int IntKind.i64, Kd.int IntKind.i64] (vev33l_0 l (rev15_5 l es quantum) (vev21_0 l Tk.imm es))], AV.agg [AV.int IntKind.i64 (intOf (((rev15_5 l es quantum).getD (vev21_0 l Tk.imm es).toNat []).getD (0 : Nat) AV.junk)), AV.int IntKind.i64 (intOf (((rev15_5 l es quantum).getD (vev21_0 l Tk.imm es).toNat []).getD ((0 : Nat) + (1 : Nat)) AV.junk)), AV.int IntKind.i64 (rev15_7 l es quantum), AV.int IntKind.i64 (intOf (((rev15_5 l es quantum).getD (vev21_0 l Tk.imm es).toNat []).getD ((0 : Nat) + (1 : Nat) + (1 : Nat) + (1 : Nat)) AV.junk))], AV.int IntKind.i64 (rev15_4 l es quantum)], []) else none else some (true, AV.tup [AV.agg [AV.int IntKind.i64 l, AV.sl Tk.imm [Kd.int IntKind.i64, Kd.int IntKind.i64, Kd.int IntKind.i64, Kd.int IntKind.i64] (rev15_5 l es quantum)], AV.agg [AV.int IntKind.i64 (intOf (((rev15_5 l es quantum).getD (vev21_0 l Tk.imm es).toNat []).getD (0 : Nat) AV.junk)), AV.int IntKind.i64 (intOf (((rev15_5 l es quantum).getD (vev21_0 l Tk.imm es).toNat []).getD ((0 : Nat) + (1 : Nat)) AV.junk)), AV.int IntKind.i64 (rev15_7 l es quantum), AV.int IntKind.i64 (intOf (((rev15_5 l es quantum).getD (vev21_0 l Tk.imm es).toNat []).getD ((0 : Nat) + (1 : Nat) + (1 : Nat) + (1 : Nat)) AV.junk))], AV.int IntKind.i64 (rev15_4 l es quantum)], []) else none else none else none else none else none else none else none else none := by kernel_rfl
  rw [h]
  clear h
  unfold vev15_0 vev15_1 vev15_2 vev15_3 vev15_4 vev15_5 vev15_6
  generalize ((spI g15_7 n15_7 y15_7 z15_7 d15_7 ((quantum, vev21_0 l Tk.imm es, l, es, (0 : Int), (0 : Int), (0 : Int), (0 : Int), (0 : Int)), (0 : Int), es)).fst) = c0
  generalize (decide (es.length * (32 : Nat) ≤ (140737488355328 : Nat))) = c1
  generalize (decide ((0 : Int) ≤ vev21_0 l Tk.imm es) && decide (vev21_0 l Tk.imm es < rev15_2 l es quantum)) = c2
  generalize (decide (es.length ≤ (9223372036854775807 : Nat))) = c3
  generalize (decide (vev21_0 l Tk.imm es < (0 : Int))) = c4
  generalize (decide ((0 : Int) ≤ vev21_0 l Tk.imm es)) = c5
  generalize (decide (rev15_7 l es quantum = (0 : Int))) = c6
  generalize (decide (vev21_0 l Tk.imm es < rev15_6 l es quantum)) = c7
  generalize (decide (quantum < (1 : Int))) = c8
  generalize (vev33l_1 l (rev15_5 l es quantum) (vev21_0 l Tk.imm es)) = c9
  generalize (vev21_1 l Tk.imm es) = c10
  cases c10
  · skip
    rfl
  · skip
    cases c4
    · skip
      cases c8
      · skip
        cases c1
        · skip
          rfl
        · skip
          cases c3
          · skip
            rfl
          · skip
            cases c0
            · skip
              rfl
            · skip
              cases c2
              · skip
                rfl
              · skip
                cases c5
                · skip
                  rfl
                · skip
                  cases c7
                  · skip
                    rfl
                  · skip
                    cases c6
                    · skip
                      rfl
                    · skip
                      cases c9
                      · skip
                        rfl
                      · skip
                        rfl
      · skip
        rfl
    · skip
      rfl
-- spec vev15_6 l es quantum ;; (true, AV.tup [AV.agg [AV.int IntKind.i64 l, AV.sl Tk.imm [Kd.int IntKind.i64, Kd.int IntKind.i64, Kd.int IntKind.i64, Kd.int IntKind.i64] (vev15_0 l es quantum)], AV.agg [AV.int IntKind.i64 (vev15_1 l es quantum), AV.int IntKind.i64 (vev15_2 l es quantum), AV.int IntKind.i64 (vev15_3 l es quantum), AV.int IntKind.i64 (vev15_4 l es quantum)], AV.int IntKind.i64 (vev15_5 l es quantum)], [])
noncomputable def sp15 : List AV → List Blk → Option (Bool × AV × List Blk)
  | [.agg [.int .i64 l, .sl .imm [.int .i64, .int .i64, .int .i64, .int .i64] es], .int .i64 quantum], [] => spW (vev15_6 l es quantum) (some ((true, AV.tup [AV.agg [AV.int IntKind.i64 l, AV.sl Tk.imm [Kd.int IntKind.i64, Kd.int IntKind.i64, Kd.int IntKind.i64, Kd.int IntKind.i64] (vev15_0 l es quantum)], AV.agg [AV.int IntKind.i64 (vev15_1 l es quantum), AV.int IntKind.i64 (vev15_2 l es quantum), AV.int IntKind.i64 (vev15_3 l es quantum), AV.int IntKind.i64 (vev15_4 l es quantum)], AV.int IntKind.i64 (vev15_5 l es quantum)], [])))
  | _, _ => none
noncomputable def k15 : Gam := fun f T C => match Nat.beq f 15 with
  | true => (sp15 T C).or (k21 f T C)
  | false => k21 f T C
theorem k15_ok : GamOK Try.prog k15 := by
  intro f T C r outs h
  unfold k15 at h
  cases hf : Nat.beq f 15 with
  | false => rw [hf] at h; exact k21_ok f T C r outs h
  | true =>
    have hf' := Nat.eq_of_beq_eq_true hf
    subst hf'
    rw [hf] at h
    dsimp only at h
    cases hs : sp15 T C with
    | none => rw [hs] at h; exact k21_ok _ T C r outs h
    | some x =>
      rw [hs] at h
      have hx : x = (true, r, outs) := by simpa using h
      subst hx
      unfold sp15 at hs
      split at hs
      · rename_i l es quantum
        obtain ⟨hb, rfl, rfl⟩ := spT_inv hs
        have he := ev15 l es quantum
        rw [hb, cond_true] at he
        obtain ⟨r0, o0, h0, he⟩ := evFin_inv he
        obtain ⟨h1, h2⟩ := fn_ok mixed plain (gk_ok k21_ok 30) Try.func15 loops15 h0
        exact ⟨h1, h2.fin he⟩
      · cases hs
noncomputable def go16_4 (t5 : Int) (b0_0 : Int) (b0_1k : Tk) (b0_1 : List (List AV)) (b1_0 : Int) (b1_1k : Tk) (b1_1 : List (List AV)) : Bool := bif decide (t5 < (↑b0_1.length : Int)) then bif decide ((0 : Int) ≤ t5) && decide (t5 < (↑b0_1.length : Int)) then bif decide ((0 : Int) ≤ t5) && decide (t5 < (↑b1_1.length : Int)) then bif !(intOf ((b0_1.getD t5.toNat []).getD (0 : Nat) AV.junk) == intOf ((b1_1.getD t5.toNat []).getD (0 : Nat) AV.junk) && (intOf ((b0_1.getD t5.toNat []).getD ((0 : Nat) + (1 : Nat)) AV.junk) == intOf ((b1_1.getD t5.toNat []).getD ((0 : Nat) + (1 : Nat)) AV.junk) && (intOf ((b0_1.getD t5.toNat []).getD ((0 : Nat) + (1 : Nat) + (1 : Nat)) AV.junk) == intOf ((b1_1.getD t5.toNat []).getD ((0 : Nat) + (1 : Nat) + (1 : Nat)) AV.junk) && (intOf ((b0_1.getD t5.toNat []).getD ((0 : Nat) + (1 : Nat) + (1 : Nat) + (1 : Nat)) AV.junk) == intOf ((b1_1.getD t5.toNat []).getD ((0 : Nat) + (1 : Nat) + (1 : Nat) + (1 : Nat)) AV.junk) && true)))) then false else true else false else false else false
noncomputable def nx16_4_0 (t5 : Int) (b0_0 : Int) (b0_1k : Tk) (b0_1 : List (List AV)) (b1_0 : Int) (b1_1k : Tk) (b1_1 : List (List AV)) : Int := IntKind.i64.wrap (t5 + (1 : Int))
noncomputable def xc16_4_0 (t5 : Int) (b0_0 : Int) (b0_1k : Tk) (b0_1 : List (List AV)) (b1_0 : Int) (b1_1k : Tk) (b1_1 : List (List AV)) : Bool := bif decide (t5 < (↑b0_1.length : Int)) then bif decide ((0 : Int) ≤ t5) && decide (t5 < (↑b0_1.length : Int)) then bif decide ((0 : Int) ≤ t5) && decide (t5 < (↑b1_1.length : Int)) then !(intOf ((b0_1.getD t5.toNat []).getD (0 : Nat) AV.junk) == intOf ((b1_1.getD t5.toNat []).getD (0 : Nat) AV.junk) && (intOf ((b0_1.getD t5.toNat []).getD ((0 : Nat) + (1 : Nat)) AV.junk) == intOf ((b1_1.getD t5.toNat []).getD ((0 : Nat) + (1 : Nat)) AV.junk) && (intOf ((b0_1.getD t5.toNat []).getD ((0 : Nat) + (1 : Nat) + (1 : Nat)) AV.junk) == intOf ((b1_1.getD t5.toNat []).getD ((0 : Nat) + (1 : Nat) + (1 : Nat)) AV.junk) && (intOf ((b0_1.getD t5.toNat []).getD ((0 : Nat) + (1 : Nat) + (1 : Nat) + (1 : Nat)) AV.junk) == intOf ((b1_1.getD t5.toNat []).getD ((0 : Nat) + (1 : Nat) + (1 : Nat) + (1 : Nat)) AV.junk) && true)))) else false else false else false
noncomputable def xc16_4_1 (t5 : Int) (b0_0 : Int) (b0_1k : Tk) (b0_1 : List (List AV)) (b1_0 : Int) (b1_1k : Tk) (b1_1 : List (List AV)) : Bool := bif decide (t5 < (↑b0_1.length : Int)) then false else true
theorem rd16_4 (rest : Lsp) (t5 : Int) (b0_0 : Int) (b0_1k : Tk) (b0_1 : List (List AV)) (b1_0 : Int) (b1_1k : Tk) (b1_1 : List (List AV)) : roundV (cfg Try.prog tab 100000 (gk k15 30) rest 16 0 Try.f16.ntmps) (loopAt Try.f16 4) [2, 3, 5] [0, 1] [4] [] [AV.hp (nat_lit 0) (nat_lit 0), AV.hp (nat_lit 1) (nat_lit 0), AV.int IntKind.i64 t5] [Blk.var [AV.int IntKind.i64 b0_0, AV.sl b0_1k [Kd.int IntKind.i64, Kd.int IntKind.i64, Kd.int IntKind.i64, Kd.int IntKind.i64] b0_1], Blk.var [AV.int IntKind.i64 b1_0, AV.sl b1_1k [Kd.int IntKind.i64, Kd.int IntKind.i64, Kd.int IntKind.i64, Kd.int IntKind.i64] b1_1]] = bif go16_4 t5 b0_0 b0_1k b0_1 b1_0 b1_1k b1_1 then some (Ex.norm, [AV.hp (nat_lit 0) (nat_lit 0), AV.hp (nat_lit 1) (nat_lit 0), AV.int IntKind.i64 (nx16_4_0 t5 b0_0 b0_1k b0_1 b1_0 b1_1k b1_1)], [Blk.var [AV.int IntKind.i64 b0_0, AV.sl b0_1k [Kd.int IntKind.i64, Kd.int IntKind.i64, Kd.int IntKind.i64, Kd.int IntKind.i64] b0_1], Blk.var [AV.int IntKind.i64 b1_0, AV.sl b1_1k [Kd.int IntKind.i64, Kd.int IntKind.i64, Kd.int IntKind.i64, Kd.int IntKind.i64] b1_1]]) else bif xc16_4_0 t5 b0_0 b0_1k b0_1 b1_0 b1_1k b1_1 then some (Ex.ret, [AV.bool false], []) else bif xc16_4_1 t5 b0_0 b0_1k b0_1 b1_0 b1_1k b1_1 then some (Ex.exit (nat_lit 0), [AV.junk], []) else none := by
  have h : roundV (cfg Try.prog tab 100000 (gk k15 30) rest 16 0 Try.f16.ntmps) (loopAt Try.f16 4) [2, 3, 5] [0, 1] [4] [] [AV.hp (nat_lit 0) (nat_lit 0), AV.hp (nat_lit 1) (nat_lit 0), AV.int IntKind.i64 t5] [Blk.var [AV.int IntKind.i64 b0_0, AV.sl b0_1k [Kd.int IntKind.i64, Kd.int IntKind.i64, Kd.int IntKind.i64, Kd.int IntKind.i64] b0_1], Blk.var [AV.int IntKind.i64 b1_0, AV.sl b1_1k [Kd.int IntKind.i64, Kd.int IntKind.i64, Kd.int IntKind.i64, Kd.int IntKind.i64] b1_1]] = bif decide (t5 < (↑b0_1.length : Int)) then bif decide ((0 : Int) ≤ t5) && decide (t5 < (↑b0_1.length : Int)) then bif decide ((0 : Int) ≤ t5) && decide (t5 < (↑b1_1.length : Int)) then bif !(intOf ((b0_1.getD t5.toNat []).getD (0 : Nat) AV.junk) == intOf ((b1_1.getD t5.toNat []).getD (0 : Nat) AV.junk) && (intOf ((b0_1.getD t5.toNat []).getD ((0 : Nat) + (1 : Nat)) AV.junk) == intOf ((b1_1.getD t5.toNat []).getD ((0 : Nat) + (1 : Nat)) AV.junk) && (intOf ((b0_1.getD t5.toNat []).getD ((0 : Nat) + (1 : Nat) + (1 : Nat)) AV.junk) == intOf ((b1_1.getD t5.toNat []).getD ((0 : Nat) + (1 : Nat) + (1 : Nat)) AV.junk) && (intOf ((b0_1.getD t5.toNat []).getD ((0 : Nat) + (1 : Nat) + (1 : Nat) + (1 : Nat)) AV.junk) == intOf ((b1_1.getD t5.toNat []).getD ((0 : Nat) + (1 : Nat) + (1 : Nat) + (1 : Nat)) AV.junk) && true)))) then some (Ex.ret, [AV.bool false], []) else some (Ex.norm, [AV.hp (nat_lit 0) (nat_lit 0), AV.hp (nat_lit 1) (nat_lit 0), AV.int IntKind.i64 (IntKind.i64.wrap (t5 + (1 : Int)))], [Blk.var [AV.int IntKind.i64 b0_0, AV.sl b0_1k [Kd.int IntKind.i64, Kd.int IntKind.i64, Kd.int IntKind.i64, Kd.int IntKind.i64] b0_1], Blk.var [AV.int IntKind.i64 b1_0, AV.sl b1_1k [Kd.int IntKind.i64, Kd.int IntKind.i64, Kd.int IntKind.i64, Kd.int IntKind.i64] b1_1]]) else none else none else some (Ex.exit (nat_lit 0), [AV.junk], []) := by kernel_rfl
  rw [h]
  clear h
  unfold go16_4 nx16_4_0 xc16_4_0 xc16_4_1
  generalize (!(intOf ((b0_1.getD t5.toNat []).getD (0 : Nat) AV.junk) == intOf ((b1_1.getD t5.toNat []).getD (0 : Nat) AV.junk) && (intOf ((b0_1.getD t5.toNat []).getD ((0 : Nat) + (1 : Nat)) AV.junk) == intOf ((b1_1.getD t5.toNat []).getD ((0 : Nat) + (1 : Nat)) AV.junk) && (intOf ((b0_1.getD t5.toNat []).getD ((0 : Nat) + (1 : Nat) + (1 : Nat)) AV.junk) == intOf ((b1_1.getD t5.toNat []).getD ((0 : Nat) + (1 : Nat) + (1 : Nat)) AV.junk) && (intOf ((b0_1.getD t5.toNat []).getD ((0 : Nat) + (1 : Nat) + (1 : Nat) + (1 : Nat)) AV.junk) == intOf ((b1_1.getD t5.toNat []).getD ((0 : Nat) + (1 : Nat) + (1 : Nat) + (1 : Nat)) AV.junk) && true))))) = c0
  generalize (decide ((0 : Int) ≤ t5) && decide (t5 < (↑b0_1.length : Int))) = c1
  generalize (decide ((0 : Int) ≤ t5) && decide (t5 < (↑b1_1.length : Int))) = c2
  generalize (decide (t5 < (↑b0_1.length : Int))) = c3
  cases c3
  · skip
    rfl
  · skip
    cases c1
    · skip
      rfl
    · skip
      cases c2
      · skip
        rfl
      · skip
        cases c0
        · skip
          rfl
        · skip
          rfl
abbrev pl16_4 : Type := Int × Tk × (List (List AV)) × Int × Tk × (List (List AV))
abbrev sl16_4 : Type := Int
noncomputable def vt16_4 (a : pl16_4 × sl16_4) : List AV := [AV.hp (nat_lit 0) (nat_lit 0), AV.hp (nat_lit 1) (nat_lit 0), AV.int IntKind.i64 a.2]
noncomputable def vc16_4 (a : pl16_4 × sl16_4) : List Blk := [Blk.var [AV.int IntKind.i64 a.1.1, AV.sl a.1.2.1 [Kd.int IntKind.i64, Kd.int IntKind.i64, Kd.int IntKind.i64, Kd.int IntKind.i64] a.1.2.2.1], Blk.var [AV.int IntKind.i64 a.1.2.2.2.1, AV.sl a.1.2.2.2.2.1 [Kd.int IntKind.i64, Kd.int IntKind.i64, Kd.int IntKind.i64, Kd.int IntKind.i64] a.1.2.2.2.2.2]]
noncomputable def de16_4 (vt : List AV) (vc : List Blk) : Option (pl16_4 × sl16_4) :=
  match vt with
  | [qa0, qa1, qa2] => (match vc with
  | [qb0, qb1] => (match qa0 with
  | AV.hp (0) (0) => (match qa1 with
  | AV.hp (1) (0) => (match qa2 with
  | AV.int IntKind.i64 t5 => (match qb0 with
  | Blk.var [AV.int IntKind.i64 b0_0, AV.sl b0_1k [Kd.int IntKind.i64, Kd.int IntKind.i64, Kd.int IntKind.i64, Kd.int IntKind.i64] b0_1] => (match qb1 with
  | Blk.var [AV.int IntKind.i64 b1_0, AV.sl b1_1k [Kd.int IntKind.i64, Kd.int IntKind.i64, Kd.int IntKind.i64, Kd.int IntKind.i64] b1_1] => (some ((b0_0, b0_1k, b0_1, b1_0, b1_1k, b1_1), t5))
  | _ => none)
  | _ => none)
  | _ => none)
  | _ => none)
  | _ => none)
  | _ => none)
  | _ => none
theorem de16_4_ok (vt : List AV) (vc : List Blk) (a : pl16_4 × sl16_4) (h : de16_4 vt vc = some a) : vt = vt16_4 a ∧ vc = vc16_4 a := by
  unfold de16_4 at h
  split at h
  rotate_left
  · cases h
  split at h
  rotate_left
  · cases h
  split at h
  rotate_left
  · cases h
  split at h
  rotate_left
  · cases h
  split at h
  rotate_left
  · cases h
  split at h
  rotate_left
  · cases h
  split at h
  rotate_left
  · cases h
  injection h with h
  subst h
  exact ⟨rfl, rfl⟩
noncomputable def g16_4 (p : pl16_4) (s : sl16_4) : Bool := go16_4 s p.1 p.2.1 p.2.2.1 p.2.2.2.1 p.2.2.2.2.1 p.2.2.2.2.2
noncomputable def n16_4 (p : pl16_4) (s : sl16_4) : sl16_4 := nx16_4_0 s p.1 p.2.1 p.2.2.1 p.2.2.2.1 p.2.2.2.2.1 p.2.2.2.2.2
noncomputable def y16_4 (p : pl16_4) (s : sl16_4) : List (Bool × Out) := [(xc16_4_0 s p.1 p.2.1 p.2.2.1 p.2.2.2.1 p.2.2.2.2.1 p.2.2.2.2.2, (Ex.ret, [AV.bool false], []))]
noncomputable def z16_4 (p : pl16_4) (s : sl16_4) : Bool := xc16_4_1 s p.1 p.2.1 p.2.2.1 p.2.2.2.1 p.2.2.2.2.1 p.2.2.2.2.2
noncomputable def d16_4 (p : pl16_4) (s : sl16_4) : Out := (Ex.exit (nat_lit 0), [AV.junk], [])
noncomputable def ls16_4 : St → Option (Bool × List (Bool × Ex × St) × Ex × St) := lspOf [2, 3, 5] [0, 1] [4] [] Try.f16.ntmps (0 + tab.nid 16) de16_4 (spI g16_4 n16_4 y16_4 z16_4 d16_4)
theorem lo16_4 (rest : Lsp) : LoopOK1 (cfg Try.prog tab 100000 (gk k15 30) (selL 4 ls16_4 rest) 16 0 Try.f16.ntmps) (loopAt Try.f16 4) := LoopOK1.iter (i := 4) (by kernel_rfl) [2, 3, 5] [0, 1] [4] [] vt16_4 vc16_4 de16_4 g16_4 n16_4 y16_4 z16_4 d16_4 (fun _ => rfl) de16_4_ok (fun p s => rd16_4 (selL 4 ls16_4 rest) s (p.1) (p.2.1) (p.2.2.1) (p.2.2.2.1) (p.2.2.2.2.1) (p.2.2.2.2.2)) (fun _ _ => rfl)
noncomputable def lsp16 : Lsp := (selL 4 ls16_4 noLsp)
theorem loops16 : ∀ c, Try.f16.body = some c → LoopsOK (cfg Try.prog tab 100000 (gk k15 30) lsp16 16 0 Try.f16.ntmps) c := loops_of [4] (by kernel_rfl) (by kernel_rfl) (fun i hi => by
  simp only [List.mem_cons, List.not_mem_nil, or_false] at hi
  subst hi
  · exact lo16_4 noLsp)
noncomputable def rev16_0 (l : Int) (tk : Tk) (es : List (List AV)) (l2 : Int) (tk2 : Tk) (es2 : List (List AV)) : sl16_4 := finL (g16_4 (l, tk, es, l2, tk2, es2)) (n16_4 (l, tk, es, l2, tk2, es2)) (0 : Int)
noncomputable def vev16_0 (l : Int) (tk : Tk) (es : List (List AV)) (l2 : Int) (tk2 : Tk) (es2 : List (List AV)) : Bool := bif bif l != l2 then true else (↑es.length : Int) != (↑es2.length : Int) then false else bif xc16_4_0 (rev16_0 l tk es l2 tk2 es2) l tk es l2 tk2 es2 then false else true
noncomputable def vev16_1 (l : Int) (tk : Tk) (es : List (List AV)) (l2 : Int) (tk2 : Tk) (es2 : List (List AV)) : Bool := bif bif l != l2 then true else (↑es.length : Int) != (↑es2.length : Int) then true else bif (spI g16_4 n16_4 y16_4 z16_4 d16_4 ((l, tk, es, l2, tk2, es2), (0 : Int))).fst then true else false
theorem ev16 (l : Int) (tk : Tk) (es : List (List AV)) (l2 : Int) (tk2 : Tk) (es2 : List (List AV)) : evFin (cfg Try.prog tab 100000 (gk k15 30) lsp16 16 ([] : List Blk).length Try.f16.ntmps) ([] : List Blk).length Try.f16.resultTypes.toList Try.f16 [.agg [.int .i64 l, .sl tk [.int .i64, .int .i64, .int .i64, .int .i64] es], .agg [.int .i64 l2, .sl tk2 [.int .i64, .int .i64, .int .i64, .int .i64] es2]] [] = bif vev16_1 l tk es l2 tk2 es2 then some (true, AV.bool (vev16_0 l tk es l2 tk2 es2), []) else none := by
  have h : evFin (cfg Try.prog tab 100000 (gk k15 30) lsp16 16 ([] : List Blk).length Try.f16.ntmps) ([] : List Blk).length Try.f16.resultTypes.toList Try.f16 [.agg [.int .i64 l, .sl tk [.int .i64, .int .i64, .int .i64, .int .i64] es], .agg [.int .i64 l2, .sl tk2 [.int .i64, .int .i64, .int .i64, .int .i64] es2]] [] = bif bif l != l2 then true else true then bif bif l != l2 then true else bif false then true else (↑es.length : Int) != (↑es2.length : Int) then some (true, AV.bool false, []) else bif (spI g16_4 n16_4 y16_4 z16_4 d16_4 ((l, tk, es, l2, tk2, es2), (0 : Int))).fst then bif xc16_4_0 (rev16_0 l tk es l2 tk2 es2) l tk es l2 tk2 es2 then some (true, AV.bool false, []) else some (true, AV.bool true, []) else none else none := by kernel_rfl
  rw [h]
  clear h
  unfold vev16_0 vev16_1
  generalize ((spI g16_4 n16_4 y16_4 z16_4 d16_4 ((l, tk, es, l2, tk2, es2), (0 : Int))).fst) = c0
  generalize ((↑es.length : Int) != (↑es2.length : Int)) = c1
  generalize (xc16_4_0 (rev16_0 l tk es l2 tk2 es2) l tk es l2 tk2 es2) = c2
  generalize (l != l2) = c3
  cases c3
  · skip
    cases c1
    · skip
      cases c0
      · skip
        rfl
      · skip
        cases c2
        · skip
          rfl
        · skip
          rfl
    · skip
      rfl
  · skip
    rfl
-- spec vev16_1 l tk es l2 tk2 es2 ;; (true, AV.bool (vev16_0 l tk es l2 tk2 es2), [])
noncomputable def sp16 : List AV → List Blk → Option (Bool × AV × List Blk)
  | [.agg [.int .i64 l, .sl tk [.int .i64, .int .i64, .int .i64, .int .i64] es], .agg [.int .i64 l2, .sl tk2 [.int .i64, .int .i64, .int .i64, .int .i64] es2]], [] => spW (vev16_1 l tk es l2 tk2 es2) (some ((true, AV.bool (vev16_0 l tk es l2 tk2 es2), [])))
  | _, _ => none
noncomputable def k16 : Gam := fun f T C => match Nat.beq f 16 with
  | true => (sp16 T C).or (k15 f T C)
  | false => k15 f T C
theorem k16_ok : GamOK Try.prog k16 := by
  intro f T C r outs h
  unfold k16 at h
  cases hf : Nat.beq f 16 with
  | false => rw [hf] at h; exact k15_ok f T C r outs h
  | true =>
    have hf' := Nat.eq_of_beq_eq_true hf
    subst hf'
    rw [hf] at h
    dsimp only at h
    cases hs : sp16 T C with
    | none => rw [hs] at h; exact k15_ok _ T C r outs h
    | some x =>
      rw [hs] at h
      have hx : x = (true, r, outs) := by simpa using h
      subst hx
      unfold sp16 at hs
      split at hs
      · rename_i l tk es l2 tk2 es2
        obtain ⟨hb, rfl, rfl⟩ := spT_inv hs
        have he := ev16 l tk es l2 tk2 es2
        rw [hb, cond_true] at he
        obtain ⟨r0, o0, h0, he⟩ := evFin_inv he
        obtain ⟨h1, h2⟩ := fn_ok mixed plain (gk_ok k15_ok 30) Try.func16 loops16 h0
        exact ⟨h1, h2.fin he⟩
      · cases hs
noncomputable def vev7_0 (l : Int) (tk : Tk) (es : List (List AV)) : Bool := decide ((↑es.length : Int) ≤ (24 : Int))
theorem ev7 (l : Int) (tk : Tk) (es : List (List AV)) : evFin (cfg Try.prog tab 100000 (gk k16 30) noLsp 7 ([] : List Blk).length Try.f7.ntmps) ([] : List Blk).length Try.f7.resultTypes.toList Try.f7 [.agg [.int .i64 l, .sl tk [.int .i64, .int .i64, .int .i64, .int .i64] es]] [] = some (true, AV.bool (vev7_0 l tk es), []) := by kernel_rfl
-- spec true ;; (true, AV.bool (vev7_0 l tk es), [])
noncomputable def sp7 : List AV → List Blk → Option (Bool × AV × List Blk)
  | [.agg [.int .i64 l, .sl tk [.int .i64, .int .i64, .int .i64, .int .i64] es]], [] => spW (true) (some ((true, AV.bool (vev7_0 l tk es), [])))
  | _, _ => none
noncomputable def k7 : Gam := fun f T C => match Nat.beq f 7 with
  | true => (sp7 T C).or (k16 f T C)
  | false => k16 f T C
theorem k7_ok : GamOK Try.prog k7 := by
  intro f T C r outs h
  unfold k7 at h
  cases hf : Nat.beq f 7 with
  | false => rw [hf] at h; exact k16_ok f T C r outs h
  | true =>
    have hf' := Nat.eq_of_beq_eq_true hf
    subst hf'
    rw [hf] at h
    dsimp only at h
    cases hs : sp7 T C with
    | none => rw [hs] at h; exact k16_ok _ T C r outs h
    | some x =>
      rw [hs] at h
      have hx : x = (true, r, outs) := by simpa using h
      subst hx
      unfold sp7 at hs
      split at hs
      · rename_i l tk es
        obtain ⟨hb, rfl, rfl⟩ := spT_inv hs
        have he := ev7 l tk es
        obtain ⟨r0, o0, h0, he⟩ := evFin_inv he
        obtain ⟨h1, h2⟩ := fn_ok mixed plain (gk_ok k16_ok 30) Try.func7 (fun c _ => LoopsOK.none (fun _ _ => rfl) c) h0
        exact ⟨h1, h2.fin he⟩
      · cases hs
noncomputable def rn9_3_0 (t4 : Int) (b1_0 : Int) (b2_0 : Int) (b2_1 : List (List AV)) (b3_0 : Int) (b4 : List (List AV)) : List (List AV) := [[AV.int IntKind.i64 (intOf ((b2_1.getD t4.toNat []).getD (0 : Nat) AV.junk)), AV.int IntKind.i64 (intOf ((b2_1.getD t4.toNat []).getD ((0 : Nat) + (1 : Nat)) AV.junk)), AV.int IntKind.i64 (intOf ((b2_1.getD t4.toNat []).getD ((0 : Nat) + (1 : Nat) + (1 : Nat)) AV.junk)), AV.int IntKind.i64 (intOf ((b2_1.getD t4.toNat []).getD ((0 : Nat) + (1 : Nat) + (1 : Nat) + (1 : Nat)) AV.junk))]]
noncomputable def go9_3 (t4 : Int) (b1_0 : Int) (b2_0 : Int) (b2_1 : List (List AV)) (b3_0 : Int) (b4 : List (List AV)) : Bool := bif decide (t4 < (↑b2_1.length : Int)) then bif decide ((0 : Int) ≤ t4) && decide (t4 < (↑b2_1.length : Int)) then bif decide ((b4.length + (rn9_3_0 t4 b1_0 b2_0 b2_1 b3_0 b4).length) * (32 : Nat) ≤ (140737488355328 : Nat)) then decide (b4.length + (rn9_3_0 t4 b1_0 b2_0 b2_1 b3_0 b4).length ≤ (9223372036854775807 : Nat)) else false else false else false
noncomputable def nx9_3_0 (t4 : Int) (b1_0 : Int) (b2_0 : Int) (b2_1 : List (List AV)) (b3_0 : Int) (b4 : List (List AV)) : Int := IntKind.i64.wrap (t4 + (1 : Int))
noncomputable def nx9_3_5 (t4 : Int) (b1_0 : Int) (b2_0 : Int) (b2_1 : List (List AV)) (b3_0 : Int) (b4 : List (List AV)) : List (List AV) := b4 ++ rn9_3_0 t4 b1_0 b2_0 b2_1 b3_0 b4
noncomputable def xc9_3_0 (t4 : Int) (b1_0 : Int) (b2_0 : Int) (b2_1 : List (List AV)) (b3_0 : Int) (b4 : List (List AV)) : Bool := bif decide (t4 < (↑b2_1.length : Int)) then false else true
theorem rd9_3 (rest : Lsp) (t4 : Int) (b1_0 : Int) (b2_0 : Int) (b2_1 : List (List AV)) (b3_0 : Int) (b4 : List (List AV)) : roundV (cfg Try.prog tab 100000 (gk k7 30) rest 9 0 Try.f9.ntmps) (loopAt Try.f9 3) [1, 2, 3, 4] [0, 1, 2, 3, 4] [2, 3] [0, 1, 3, 4] [AV.hp (nat_lit 2) (nat_lit 0), AV.hp (nat_lit 3) (nat_lit 0), AV.hp (nat_lit 1) (nat_lit 0), AV.int IntKind.i64 t4] [Blk.dead, Blk.var [AV.int IntKind.i64 b1_0, AV.rf (nat_lit 4) [Kd.int IntKind.i64, Kd.int IntKind.i64, Kd.int IntKind.i64, Kd.int IntKind.i64]], Blk.var [AV.int IntKind.i64 b2_0, AV.sl Tk.imm [Kd.int IntKind.i64, Kd.int IntKind.i64, Kd.int IntKind.i64, Kd.int IntKind.i64] b2_1], Blk.var [AV.int IntKind.i64 b3_0, AV.nil], Blk.row [Kd.int IntKind.i64, Kd.int IntKind.i64, Kd.int IntKind.i64, Kd.int IntKind.i64] b4] = bif go9_3 t4 b1_0 b2_0 b2_1 b3_0 b4 then some (Ex.norm, [AV.hp (nat_lit 2) (nat_lit 0), AV.hp (nat_lit 3) (nat_lit 0), AV.hp (nat_lit 1) (nat_lit 0), AV.int IntKind.i64 (nx9_3_0 t4 b1_0 b2_0 b2_1 b3_0 b4)], [Blk.dead, Blk.var [AV.int IntKind.i64 b1_0, AV.rf (nat_lit 4) [Kd.int IntKind.i64, Kd.int IntKind.i64, Kd.int IntKind.i64, Kd.int IntKind.i64]], Blk.var [AV.int IntKind.i64 b2_0, AV.sl Tk.imm [Kd.int IntKind.i64, Kd.int IntKind.i64, Kd.int IntKind.i64, Kd.int IntKind.i64] b2_1], Blk.var [AV.int IntKind.i64 b3_0, AV.nil], Blk.row [Kd.int IntKind.i64, Kd.int IntKind.i64, Kd.int IntKind.i64, Kd.int IntKind.i64] (nx9_3_5 t4 b1_0 b2_0 b2_1 b3_0 b4)]) else bif xc9_3_0 t4 b1_0 b2_0 b2_1 b3_0 b4 then some (Ex.exit (nat_lit 0), [AV.hp (nat_lit 3) (nat_lit 0), AV.hp (nat_lit 1) (nat_lit 0)], [Blk.dead, Blk.var [AV.int IntKind.i64 b1_0, AV.rf (nat_lit 4) [Kd.int IntKind.i64, Kd.int IntKind.i64, Kd.int IntKind.i64, Kd.int IntKind.i64]], Blk.var [AV.int IntKind.i64 b3_0, AV.nil], Blk.row [Kd.int IntKind.i64, Kd.int IntKind.i64, Kd.int IntKind.i64, Kd.int IntKind.i64] b4]) else none := by
  have h : roundV (cfg Try.prog tab 100000 (gk k7 30) rest 9 0 Try.f9.ntmps) (loopAt Try.f9 3) [1, 2, 3, 4] [0, 1, 2, 3, 4] [2, 3] [0, 1, 3, 4] [AV.hp (nat_lit 2) (nat_lit 0), AV.hp (nat_lit 3) (nat_lit 0), AV.hp (nat_lit 1) (nat_lit 0), AV.int IntKind.i64 t4] [Blk.dead, Blk.var [AV.int IntKind.i64 b1_0, AV.rf (nat_lit 4) [Kd.int IntKind.i64, Kd.int IntKind.i64, Kd.int IntKind.i64, Kd.int IntKind.i64]], Blk.var [AV.int IntKind.i64 b2_0, AV.sl Tk.imm [Kd.int IntKind.i64, Kd.int IntKind.i64, Kd.int IntKind.i64, Kd.int IntKind.i64] b2_1], Blk.var [AV.int IntKind.i64 b3_0, AV.nil], Blk.row [Kd.int IntKind.i64, Kd.int IntKind.i64, Kd.int IntKind.i64, Kd.int IntKind.i64] b4] = bif decide (t4 < (↑b2_1.length : Int)) then bif decide ((0 : Int) ≤ t4) && decide (t4 < (↑b2_1.length : Int)) then bif bif decide ((b4.length + (rn9_3_0 t4 b1_0 b2_0 b2_1 b3_0 b4).length) * (32 : Nat) ≤ (140737488355328 : Nat)) then decide (b4.length + (rn9_3_0 t4 b1_0 b2_0 b2_1 b3_0 b4).length ≤ (9223372036854775807 : Nat)) else false then some (Ex.norm, [AV.hp (nat_lit 2) (nat_lit 0), AV.hp (nat_lit 3) (nat_lit 0), AV.hp (nat_lit 1) (nat_lit 0), AV.int IntKind.i64 (IntKind.i64.wrap (t4 + (1 : Int)))], [Blk.dead, Blk.var [AV.int IntKind.i64 b1_0, AV.rf (nat_lit 4) [Kd.int IntKind.i64, Kd.int IntKind.i64, Kd.int IntKind.i64, Kd.int IntKind.i64]], Blk.var [AV.int IntKind.i64 b2_0, AV.sl Tk.imm [Kd.int IntKind.i64, Kd.int IntKind.i64, Kd.int IntKind.i64, Kd.int IntKind.i64] b2_1], Blk.var [AV.int IntKind.i64 b3_0, AV.nil], Blk.row [Kd.int IntKind.i64, Kd.int IntKind.i64, Kd.int IntKind.i64, Kd.int IntKind.i64] (b4 ++ rn9_3_0 t4 b1_0 b2_0 b2_1 b3_0 b4)]) else none else none else some (Ex.exit (nat_lit 0), [AV.hp (nat_lit 3) (nat_lit 0), AV.hp (nat_lit 1) (nat_lit 0)], [Blk.dead, Blk.var [AV.int IntKind.i64 b1_0, AV.rf (nat_lit 4) [Kd.int IntKind.i64, Kd.int IntKind.i64, Kd.int IntKind.i64, Kd.int IntKind.i64]], Blk.var [AV.int IntKind.i64 b3_0, AV.nil], Blk.row [Kd.int IntKind.i64, Kd.int IntKind.i64, Kd.int IntKind.i64, Kd.int IntKind.i64] b4]) := by kernel_rfl
  rw [h]
  clear h
  unfold go9_3 nx9_3_0 nx9_3_5 xc9_3_0
  generalize (decide ((b4.length + (rn9_3_0 t4 b1_0 b2_0 b2_1 b3_0 b4).length) * (32 : Nat) ≤ (140737488355328 : Nat))) = c0
  generalize (decide (b4.length + (rn9_3_0 t4 b1_0 b2_0 b2_1 b3_0 b4).length ≤ (9223372036854775807 : Nat))) = c1
  generalize (decide ((0 : Int) ≤ t4) && decide (t4 < (↑b2_1.length : Int))) = c2
  generalize (decide (t4 < (↑b2_1.length : Int))) = c3
  cases c3
  · skip
    rfl
  · skip
    cases c2
    · skip
      rfl
    · skip
      cases c0
      · skip
        rfl
      · skip
        cases c1
        · skip
          rfl
        · skip
          rfl
abbrev pl9_3 : Type := Int × Int × (List (List AV)) × Int
abbrev sl9_3 : Type := Int × (List (List AV))
noncomputable def vt9_3 (a : pl9_3 × sl9_3) : List AV := [AV.hp (nat_lit 2) (nat_lit 0), AV.hp (nat_lit 3) (nat_lit 0), AV.hp (nat_lit 1) (nat_lit 0), AV.int IntKind.i64 a.2.1]
noncomputable def vc9_3 (a : pl9_3 × sl9_3) : List Blk := [Blk.dead, Blk.var [AV.int IntKind.i64 a.1.1, AV.rf (nat_lit 4) [Kd.int IntKind.i64, Kd.int IntKind.i64, Kd.int IntKind.i64, Kd.int IntKind.i64]], Blk.var [AV.int IntKind.i64 a.1.2.1, AV.sl Tk.imm [Kd.int IntKind.i64, Kd.int IntKind.i64, Kd.int IntKind.i64, Kd.int IntKind.i64] a.1.2.2.1], Blk.var [AV.int IntKind.i64 a.1.2.2.2, AV.nil], Blk.row [Kd.int IntKind.i64, Kd.int IntKind.i64, Kd.int IntKind.i64, Kd.int IntKind.i64] a.2.2]
noncomputable def de9_3 (vt : List AV) (vc : List Blk) : Option (pl9_3 × sl9_3) :=
  match vt with
  | [qa0, qa1, qa2, qa3] => (match vc with
  | [qb0, qb1, qb2, qb3, qb4] => (match qa0 with
  | AV.hp (2) (0) => (match qa1 with
  | AV.hp (3) (0) => (match qa2 with
  | AV.hp (1) (0) => (match qa3 with
  | AV.int IntKind.i64 t4 => (match qb0 with
  | Blk.dead => (match qb1 with
  | Blk.var [AV.int IntKind.i64 b1_0, AV.rf (4) [Kd.int IntKind.i64, Kd.int IntKind.i64, Kd.int IntKind.i64, Kd.int IntKind.i64]] => (match qb2 with
  | Blk.var [AV.int IntKind.i64 b2_0, AV.sl Tk.imm [Kd.int IntKind.i64, Kd.int IntKind.i64, Kd.int IntKind.i64, Kd.int IntKind.i64] b2_1] => (match qb3 with
  | Blk.var [AV.int IntKind.i64 b3_0, AV.nil] => (match qb4 with
  | Blk.row [Kd.int IntKind.i64, Kd.int IntKind.i64, Kd.int IntKind.i64, Kd.int IntKind.i64] b4 => (some ((b1_0, b2_0, b2_1, b3_0), (t4, b4)))
  | _ => none)
  | _ => none)
  | _ => none)
  | _ => none)
  | _ => none)
  | _ => none)
  | _ => none)
  | _ => none)
  | _ => none)
  | _ => none)
  | _ => none
theorem de9_3_ok (vt : List AV) (vc : List Blk) (a : pl9_3 × sl9_3) (h : de9_3 vt vc = some a) : vt = vt9_3 a ∧ vc = vc9_3 a := by
  unfold de9_3 at h
  split at h
  rotate_left
  · cases h
  split at h
  rotate_left
  · cases h
  split at h
  rotate_left
  · cases h
  split at h
  rotate_left
  · cases h
  split at h
  rotate_left
  · cases h
  split at h
  rotate_left
  · cases h
  split at h
  rotate_left
  · cases h
  split at h
  rotate_left
  · cases h
  split at h
  rotate_left
  · cases h
  split at h
  rotate_left
  · cases h
  split at h
  rotate_left
  · cases h
  injection h with h
  subst h
  exact ⟨rfl, rfl⟩
noncomputable def g9_3 (p : pl9_3) (s : sl9_3) : Bool := go9_3 s.1 p.1 p.2.1 p.2.2.1 p.2.2.2 s.2
noncomputable def n9_3 (p : pl9_3) (s : sl9_3) : sl9_3 := (nx9_3_0 s.1 p.1 p.2.1 p.2.2.1 p.2.2.2 s.2, nx9_3_5 s.1 p.1 p.2.1 p.2.2.1 p.2.2.2 s.2)
noncomputable def y9_3 (p : pl9_3) (s : sl9_3) : List (Bool × Out) := []
noncomputable def z9_3 (p : pl9_3) (s : sl9_3) : Bool := xc9_3_0 s.1 p.1 p.2.1 p.2.2.1 p.2.2.2 s.2
noncomputable def d9_3 (p : pl9_3) (s : sl9_3) : Out := (Ex.exit (nat_lit 0), [AV.hp (nat_lit 3) (nat_lit 0), AV.hp (nat_lit 1) (nat_lit 0)], [Blk.dead, Blk.var [AV.int IntKind.i64 p.1, AV.rf (nat_lit 4) [Kd.int IntKind.i64, Kd.int IntKind.i64, Kd.int IntKind.i64, Kd.int IntKind.i64]], Blk.var [AV.int IntKind.i64 p.2.2.2, AV.nil], Blk.row [Kd.int IntKind.i64, Kd.int IntKind.i64, Kd.int IntKind.i64, Kd.int IntKind.i64] s.2])
noncomputable def ls9_3 : St → Option (Bool × List (Bool × Ex × St) × Ex × St) := lspOf [1, 2, 3, 4] [0, 1, 2, 3, 4] [2, 3] [0, 1, 3, 4] Try.f9.ntmps (0 + tab.nid 9) de9_3 (spI g9_3 n9_3 y9_3 z9_3 d9_3)
theorem lo9_3 (rest : Lsp) : LoopOK1 (cfg Try.prog tab 100000 (gk k7 30) (selL 3 ls9_3 rest) 9 0 Try.f9.ntmps) (loopAt Try.f9 3) := LoopOK1.iter (i := 3) (by kernel_rfl) [1, 2, 3, 4] [0, 1, 2, 3, 4] [2, 3] [0, 1, 3, 4] vt9_3 vc9_3 de9_3 g9_3 n9_3 y9_3 z9_3 d9_3 (fun _ => rfl) de9_3_ok (fun p s => rd9_3 (selL 3 ls9_3 rest) (s.1) (p.1) (p.2.1) (p.2.2.1) (p.2.2.2) (s.2)) (fun _ _ => rfl)
noncomputable def lsp9 : Lsp := (selL 3 ls9_3 noLsp)
theorem loops9 : ∀ c, Try.f9.body = some c → LoopsOK (cfg Try.prog tab 100000 (gk k7 30) lsp9 9 0 Try.f9.ntmps) c := loops_of [3] (by kernel_rfl) (by kernel_rfl) (fun i hi => by
  simp only [List.mem_cons, List.not_mem_nil, or_false] at hi
  subst hi
  · exact lo9_3 noLsp)
noncomputable def rev9_0 (l : Int) (es : List (List AV)) : sl9_3 := finL (g9_3 (l, l, es, (0 : Int))) (n9_3 (l, l, es, (0 : Int))) ((0 : Int), [])
noncomputable def vev9_0 (l : Int) (es : List (List AV)) : List (List AV) := (rev9_0 l es).snd
noncomputable def vev9_1 (l : Int) (es : List (List AV)) : Bool := bif (spI g9_3 n9_3 y9_3 z9_3 d9_3 ((l, l, es, (0 : Int)), (0 : Int), [])).fst then true else false
theorem ev9 (l : Int) (es : List (List AV)) : evFin (cfg Try.prog tab 100000 (gk k7 30) lsp9 9 ([] : List Blk).length Try.f9.ntmps) ([] : List Blk).length Try.f9.resultTypes.toList Try.f9 [.agg [.int .i64 l, .sl .imm [.int .i64, .int .i64, .int .i64, .int .i64] es]] [] = bif vev9_1 l es then some (true, AV.agg [AV.int IntKind.i64 l, AV.sl Tk.imm [Kd.int IntKind.i64, Kd.int IntKind.i64, Kd.int IntKind.i64, Kd.int IntKind.i64] (vev9_0 l es)], []) else none := by
  have h : evFin (cfg Try.prog tab 100000 (gk k7 30) lsp9 9 ([] : List Blk).length Try.f9.ntmps) ([] : List Blk).length Try.f9.resultTypes.toList Try.f9 [.agg [.int .i64 l, .sl .imm [.int .i64, .int .i64, .int .i64, .int .i64] es]] [] = bif (spI g9_3 n9_3 y9_3 z9_3 d9_3 ((l, l, es, (0 : Int)), (0 : Int), [])).fst then some (true, AV.agg [AV.int IntKind.i64 l, AV.sl Tk.imm [Kd.int IntKind.i64, Kd.int IntKind.i64, Kd.int IntKind.i64, Kd.int IntKind.i64] (rev9_0 l es).snd], []) else none := by kernel_rfl
  rw [h]
  clear h
  unfold vev9_0 vev9_1
  generalize ((spI g9_3 n9_3 y9_3 z9_3 d9_3 ((l, l, es, (0 : Int)), (0 : Int), [])).fst) = c0
  cases c0
  · skip
    rfl
  · skip
    rfl
-- spec vev9_1 l es ;; (true, AV.agg [AV.int IntKind.i64 l, AV.sl Tk.imm [Kd.int IntKind.i64, Kd.int IntKind.i64, Kd.int IntKind.i64, Kd.int IntKind.i64] (vev9_0 l es)], [])
noncomputable def sp9 : List AV → List Blk → Option (Bool × AV × List Blk)
  | [.agg [.int .i64 l, .sl .imm [.int .i64, .int .i64, .int .i64, .int .i64] es]], [] => spW (vev9_1 l es) (some ((true, AV.agg [AV.int IntKind.i64 l, AV.sl Tk.imm [Kd.int IntKind.i64, Kd.int IntKind.i64, Kd.int IntKind.i64, Kd.int IntKind.i64] (vev9_0 l es)], [])))
  | _, _ => none
noncomputable def k9 : Gam := fun f T C => match Nat.beq f 9 with
  | true => (sp9 T C).or (k7 f T C)
  | false => k7 f T C
theorem k9_ok : GamOK Try.prog k9 := by
  intro f T C r outs h
  unfold k9 at h
  cases hf : Nat.beq f 9 with
  | false => rw [hf] at h; exact k7_ok f T C r outs h
  | true =>
    have hf' := Nat.eq_of_beq_eq_true hf
    subst hf'
    rw [hf] at h
    dsimp only at h
    cases hs : sp9 T C with
    | none => rw [hs] at h; exact k7_ok _ T C r outs h
    | some x =>
      rw [hs] at h
      have hx : x = (true, r, outs) := by simpa using h
      subst hx
      unfold sp9 at hs
      split at hs
      · rename_i l es
        obtain ⟨hb, rfl, rfl⟩ := spT_inv hs
        have he := ev9 l es
        rw [hb, cond_true] at he
        obtain ⟨r0, o0, h0, he⟩ := evFin_inv he
        obtain ⟨h1, h2⟩ := fn_ok mixed plain (gk_ok k7_ok 30) Try.func9 loops9 h0
        exact ⟨h1, h2.fin he⟩
      · cases hs
noncomputable def rn17_3_0 (t4 : Int) (b1_0 : Int) (b2_0 : Int) (b2_1 : List (List AV)) (b3_0 : Int) (b4 : List (List AV)) : List (List AV) := [[AV.int IntKind.i64 (intOf ((b2_1.getD t4.toNat []).getD (0 : Nat) AV.junk)), AV.int IntKind.i64 (intOf ((b2_1.getD t4.toNat []).getD ((0 : Nat) + (1 : Nat)) AV.junk)), AV.int IntKind.i64 (intOf ((b2_1.getD t4.toNat []).getD ((0 : Nat) + (1 : Nat) + (1 : Nat)) AV.junk)), AV.int IntKind.i64 (intOf ((b2_1.getD t4.toNat []).getD ((0 : Nat) + (1 : Nat) + (1 : Nat) + (1 : Nat)) AV.junk))]]
noncomputable def go17_3 (t4 : Int) (b1_0 : Int) (b2_0 : Int) (b2_1 : List (List AV)) (b3_0 : Int) (b4 : List (List AV)) : Bool := bif decide (t4 < (↑b2_1.length : Int)) then bif decide ((0 : Int) ≤ t4) && decide (t4 < (↑b2_1.length : Int)) then bif decide ((b4.length + (rn17_3_0 t4 b1_0 b2_0 b2_1 b3_0 b4).length) * (32 : Nat) ≤ (140737488355328 : Nat)) then decide (b4.length + (rn17_3_0 t4 b1_0 b2_0 b2_1 b3_0 b4).length ≤ (9223372036854775807 : Nat)) else false else false else false
noncomputable def nx17_3_0 (t4 : Int) (b1_0 : Int) (b2_0 : Int) (b2_1 : List (List AV)) (b3_0 : Int) (b4 : List (List AV)) : Int := IntKind.i64.wrap (t4 + (1 : Int))
noncomputable def nx17_3_5 (t4 : Int) (b1_0 : Int) (b2_0 : Int) (b2_1 : List (List AV)) (b3_0 : Int) (b4 : List (List AV)) : List (List AV) := b4 ++ rn17_3_0 t4 b1_0 b2_0 b2_1 b3_0 b4
noncomputable def xc17_3_0 (t4 : Int) (b1_0 : Int) (b2_0 : Int) (b2_1 : List (List AV)) (b3_0 : Int) (b4 : List (List AV)) : Bool := bif decide (t4 < (↑b2_1.length : Int)) then false else true
theorem rd17_3 (rest : Lsp) (t4 : Int) (b1_0 : Int) (b2_0 : Int) (b2_1 : List (List AV)) (b3_0 : Int) (b4 : List (List AV)) : roundV (cfg Try.prog tab 100000 (gk k9 30) rest 17 0 Try.f17.ntmps) (loopAt Try.f17 3) [1, 2, 3, 4] [0, 1, 2, 3, 4] [2, 3] [0, 1, 3, 4] [AV.hp (nat_lit 2) (nat_lit 0), AV.hp (nat_lit 3) (nat_lit 0), AV.hp (nat_lit 1) (nat_lit 0), AV.int IntKind.i64 t4] [Blk.dead, Blk.var [AV.int IntKind.i64 b1_0, AV.rf (nat_lit 4) [Kd.int IntKind.i64, Kd.int IntKind.i64, Kd.int IntKind.i64, Kd.int IntKind.i64]], Blk.var [AV.int IntKind.i64 b2_0, AV.sl Tk.imm [Kd.int IntKind.i64, Kd.int IntKind.i64, Kd.int IntKind.i64, Kd.int IntKind.i64] b2_1], Blk.var [AV.int IntKind.i64 b3_0, AV.nil], Blk.row [Kd.int IntKind.i64, Kd.int IntKind.i64, Kd.int IntKind.i64, Kd.int IntKind.i64] b4] = bif go17_3 t4 b1_0 b2_0 b2_1 b3_0 b4 then some (Ex.norm, [AV.hp (nat_lit 2) (nat_lit 0), AV.hp (nat_lit 3) (nat_lit 0), AV.hp (nat_lit 1) (nat_lit 0), AV.int IntKind.i64 (nx17_3_0 t4 b1_0 b2_0 b2_1 b3_0 b4)], [Blk.dead, Blk.var [AV.int IntKind.i64 b1_0, AV.rf (nat_lit 4) [Kd.int IntKind.i64, Kd.int IntKind.i64, Kd.int IntKind.i64, Kd.int IntKind.i64]], Blk.var [AV.int IntKind.i64 b2_0, AV.sl Tk.imm [Kd.int IntKind.i64, Kd.int IntKind.i64, Kd.int IntKind.i64, Kd.int IntKind.i64] b2_1], Blk.var [AV.int IntKind.i64 b3_0, AV.nil], Blk.row [Kd.int IntKind.i64, Kd.int IntKind.i64, Kd.int IntKind.i64, Kd.int IntKind.i64] (nx17_3_5 t4 b1_0 b2_0 b2_1 b3_0 b4)]) else bif xc17_3_0 t4 b1_0 b2_0 b2_1 b3_0 b4 then some (Ex.exit (nat_lit 0), [AV.hp (nat_lit 3) (nat_lit 0), AV.hp (nat_lit 1) (nat_lit 0)], [Blk.dead, Blk.var [AV.int IntKind.i64 b1_0, AV.rf (nat_lit 4) [Kd.int IntKind.i64, Kd.int IntKind.i64, Kd.int IntKind.i64, Kd.int IntKind.i64]], Blk.var [AV.int IntKind.i64 b3_0, AV.nil], Blk.row [Kd.int IntKind.i64, Kd.int IntKind.i64, Kd.int IntKind.i64, Kd.int IntKind.i64] b4]) else none := by
  have h : roundV (cfg Try.prog tab 100000 (gk k9 30) rest 17 0 Try.f17.ntmps) (loopAt Try.f17 3) [1, 2, 3, 4] [0, 1, 2, 3, 4] [2, 3] [0, 1, 3, 4] [AV.hp (nat_lit 2) (nat_lit 0), AV.hp (nat_lit 3) (nat_lit 0), AV.hp (nat_lit 1) (nat_lit 0), AV.int IntKind.i64 t4] [Blk.dead, Blk.var [AV.int IntKind.i64 b1_0, AV.rf (nat_lit 4) [Kd.int IntKind.i64, Kd.int IntKind.i64, Kd.int IntKind.i64, Kd.int IntKind.i64]], Blk.var [AV.int IntKind.i64 b2_0, AV.sl Tk.imm [Kd.int IntKind.i64, Kd.int IntKind.i64, Kd.int IntKind.i64, Kd.int IntKind.i64] b2_1], Blk.var [AV.int IntKind.i64 b3_0, AV.nil], Blk.row [Kd.int IntKind.i64, Kd.int IntKind.i64, Kd.int IntKind.i64, Kd.int IntKind.i64] b4] = bif decide (t4 < (↑b2_1.length : Int)) then bif decide ((0 : Int) ≤ t4) && decide (t4 < (↑b2_1.length : Int)) then bif bif decide ((b4.length + (rn17_3_0 t4 b1_0 b2_0 b2_1 b3_0 b4).length) * (32 : Nat) ≤ (140737488355328 : Nat)) then decide (b4.length + (rn17_3_0 t4 b1_0 b2_0 b2_1 b3_0 b4).length ≤ (9223372036854775807 : Nat)) else false then some (Ex.norm, [AV.hp (nat_lit 2) (nat_lit 0), AV.hp (nat_lit 3) (nat_lit 0), AV.hp (nat_lit 1) (nat_lit 0), AV.int IntKind.i64 (IntKind.i64.wrap (t4 + (1 : Int)))], [Blk.dead, Blk.var [AV.int IntKind.i64 b1_0, AV.rf (nat_lit 4) [Kd.int IntKind.i64, Kd.int IntKind.i64, Kd.int IntKind.i64, Kd.int IntKind.i64]], Blk.var [AV.int IntKind.i64 b2_0, AV.sl Tk.imm [Kd.int IntKind.i64, Kd.int IntKind.i64, Kd.int IntKind.i64, Kd.int IntKind.i64] b2_1], Blk.var [AV.int IntKind.i64 b3_0, AV.nil], Blk.row [Kd.int IntKind.i64, Kd.int IntKind.i64, Kd.int IntKind.i64, Kd.int IntKind.i64] (b4 ++ rn17_3_0 t4 b1_0 b2_0 b2_1 b3_0 b4)]) else none else none else some (Ex.exit (nat_lit 0), [AV.hp (nat_lit 3) (nat_lit 0), AV.hp (nat_lit 1) (nat_lit 0)], [Blk.dead, Blk.var [AV.int IntKind.i64 b1_0, AV.rf (nat_lit 4) [Kd.int IntKind.i64, Kd.int IntKind.i64, Kd.int IntKind.i64, Kd.int IntKind.i64]], Blk.var [AV.int IntKind.i64 b3_0, AV.nil], Blk.row [Kd.int IntKind.i64, Kd.int IntKind.i64, Kd.int IntKind.i64, Kd.int IntKind.i64] b4]) := by kernel_rfl
  rw [h]
  clear h
  unfold go17_3 nx17_3_0 nx17_3_5 xc17_3_0
  generalize (decide ((b4.length + (rn17_3_0 t4 b1_0 b2_0 b2_1 b3_0 b4).length) * (32 : Nat) ≤ (140737488355328 : Nat))) = c0
  generalize (decide (b4.length + (rn17_3_0 t4 b1_0 b2_0 b2_1 b3_0 b4).length ≤ (9223372036854775807 : Nat))) = c1
  generalize (decide ((0 : Int) ≤ t4) && decide (t4 < (↑b2_1.length : Int))) = c2
  generalize (decide (t4 < (↑b2_1.length : Int))) = c3
  cases c3
  · skip
    rfl
  · skip
    cases c2
    · skip
      rfl
    · skip
      cases c0
      · skip
        rfl
      · skip
        cases c1
        · skip
          rfl
        · skip
          rfl
abbrev pl17_3 : Type := Int × Int × (List (List AV)) × Int
abbrev sl17_3 : Type := Int × (List (List AV))
noncomputable def vt17_3 (a : pl17_3 × sl17_3) : List AV := [AV.hp (nat_lit 2) (nat_lit 0), AV.hp (nat_lit 3) (nat_lit 0), AV.hp (nat_lit 1) (nat_lit 0), AV.int IntKind.i64 a.2.1]
noncomputable def vc17_3 (a : pl17_3 × sl17_3) : List Blk := [Blk.dead, Blk.var [AV.int IntKind.i64 a.1.1, AV.rf (nat_lit 4) [Kd.int IntKind.i64, Kd.int IntKind.i64, Kd.int IntKind.i64, Kd.int IntKind.i64]], Blk.var [AV.int IntKind.i64 a.1.2.1, AV.sl Tk.imm [Kd.int IntKind.i64, Kd.int IntKind.i64, Kd.int IntKind.i64, Kd.int IntKind.i64] a.1.2.2.1], Blk.var [AV.int IntKind.i64 a.1.2.2.2, AV.nil], Blk.row [Kd.int IntKind.i64, Kd.int IntKind.i64, Kd.int IntKind.i64, Kd.int IntKind.i64] a.2.2]
noncomputable def de17_3 (vt : List AV) (vc : List Blk) : Option (pl17_3 × sl17_3) :=
  match vt with
  | [qa0, qa1, qa2, qa3] => (match vc with
  | [qb0, qb1, qb2, qb3, qb4] => (match qa0 with
  | AV.hp (2) (0) => (match qa1 with
  | AV.hp (3) (0) => (match qa2 with
  | AV.hp (1) (0) => (match qa3 with
  | AV.int IntKind.i64 t4 => (match qb0 with
  | Blk.dead => (match qb1 with
  | Blk.var [AV.int IntKind.i64 b1_0, AV.rf (4) [Kd.int IntKind.i64, Kd.int IntKind.i64, Kd.int IntKind.i64, Kd.int IntKind.i64]] => (match qb2 with
  | Blk.var [AV.int IntKind.i64 b2_0, AV.sl Tk.imm [Kd.int IntKind.i64, Kd.int IntKind.i64, Kd.int IntKind.i64, Kd.int IntKind.i64] b2_1] => (match qb3 with
  | Blk.var [AV.int IntKind.i64 b3_0, AV.nil] => (match qb4 with
  | Blk.row [Kd.int IntKind.i64, Kd.int IntKind.i64, Kd.int IntKind.i64, Kd.int IntKind.i64] b4 => (some ((b1_0, b2_0, b2_1, b3_0), (t4, b4)))
  | _ => none)
  | _ => none)
  | _ => none)
  | _ => none)
  | _ => none)
  | _ => none)
  | _ => none)
  | _ => none)
  | _ => none)
  | _ => none)
  | _ => none
theorem de17_3_ok (vt : List AV) (vc : List Blk) (a : pl17_3 × sl17_3) (h : de17_3 vt vc = some a) : vt = vt17_3 a ∧ vc = vc17_3 a := by
  unfold de17_3 at h
  split at h
  rotate_left
  · cases h
  split at h
  rotate_left
  · cases h
  split at h
  rotate_left
  · cases h
  split at h
  rotate_left
  · cases h
  split at h
  rotate_left
  · cases h
  split at h
  rotate_left
  · cases h
  split at h
  rotate_left
  · cases h
  split at h
  rotate_left
  · cases h
  split at h
  rotate_left
  · cases h
  split at h
  rotate_left
  · cases h
  split at h
  rotate_left
  · cases h
  injection h with h
  subst h
  exact ⟨rfl, rfl⟩
noncomputable def g17_3 (p : pl17_3) (s : sl17_3) : Bool := go17_3 s.1 p.1 p.2.1 p.2.2.1 p.2.2.2 s.2
noncomputable def n17_3 (p : pl17_3) (s : sl17_3) : sl17_3 := (nx17_3_0 s.1 p.1 p.2.1 p.2.2.1 p.2.2.2 s.2, nx17_3_5 s.1 p.1 p.2.1 p.2.2.1 p.2.2.2 s.2)
noncomputable def y17_3 (p : pl17_3) (s : sl17_3) : List (Bool × Out) := []
noncomputable def z17_3 (p : pl17_3) (s : sl17_3) : Bool := xc17_3_0 s.1 p.1 p.2.1 p.2.2.1 p.2.2.2 s.2
noncomputable def d17_3 (p : pl17_3) (s : sl17_3) : Out := (Ex.exit (nat_lit 0), [AV.hp (nat_lit 3) (nat_lit 0), AV.hp (nat_lit 1) (nat_lit 0)], [Blk.dead, Blk.var [AV.int IntKind.i64 p.1, AV.rf (nat_lit 4) [Kd.int IntKind.i64, Kd.int IntKind.i64, Kd.int IntKind.i64, Kd.int IntKind.i64]], Blk.var [AV.int IntKind.i64 p.2.2.2, AV.nil], Blk.row [Kd.int IntKind.i64, Kd.int IntKind.i64, Kd.int IntKind.i64, Kd.int IntKind.i64] s.2])
noncomputable def ls17_3 : St → Option (Bool × List (Bool × Ex × St) × Ex × St) := lspOf [1, 2, 3, 4] [0, 1, 2, 3, 4] [2, 3] [0, 1, 3, 4] Try.f17.ntmps (0 + tab.nid 17) de17_3 (spI g17_3 n17_3 y17_3 z17_3 d17_3)
theorem lo17_3 (rest : Lsp) : LoopOK1 (cfg Try.prog tab 100000 (gk k9 30) (selL 3 ls17_3 rest) 17 0 Try.f17.ntmps) (loopAt Try.f17 3) := LoopOK1.iter (i := 3) (by kernel_rfl) [1, 2, 3, 4] [0, 1, 2, 3, 4] [2, 3] [0, 1, 3, 4] vt17_3 vc17_3 de17_3 g17_3 n17_3 y17_3 z17_3 d17_3 (fun _ => rfl) de17_3_ok (fun p s => rd17_3 (selL 3 ls17_3 rest) (s.1) (p.1) (p.2.1) (p.2.2.1) (p.2.2.2) (s.2)) (fun _ _ => rfl)
noncomputable def lsp17 : Lsp := (selL 3 ls17_3 noLsp)
theorem loops17 : ∀ c, Try.f17.body = some c → LoopsOK (cfg Try.prog tab 100000 (gk k9 30) lsp17 17 0 Try.f17.ntmps) c := loops_of [3] (by kernel_rfl) (by kernel_rfl) (fun i hi => by
  simp only [List.mem_cons, List.not_mem_nil, or_false] at hi
  subst hi
  · exact lo17_3 noLsp)
noncomputable def rev17_0 (l : Int) (es : List (List AV)) : sl17_3 := finL (g17_3 (l, l, es, (0 : Int))) (n17_3 (l, l, es, (0 : Int))) ((0 : Int), [])
noncomputable def vev17_0 (l : Int) (es : List (List AV)) : List (List AV) := (rev17_0 l es).snd
noncomputable def vev17_1 (l : Int) (es : List (List AV)) : Bool := bif (spI g17_3 n17_3 y17_3 z17_3 d17_3 ((l, l, es, (0 : Int)), (0 : Int), [])).fst then true else false
theorem ev17 (l : Int) (es : List (List AV)) : evFin (cfg Try.prog tab 100000 (gk k9 30) lsp17 17 ([] : List Blk).length Try.f17.ntmps) ([] : List Blk).length Try.f17.resultTypes.toList Try.f17 [.agg [.int .i64 l, .sl .imm [.int .i64, .int .i64, .int .i64, .int .i64] es]] [] = bif vev17_1 l es then some (true, AV.agg [AV.int IntKind.i64 l, AV.sl Tk.imm [Kd.int IntKind.i64, Kd.int IntKind.i64, Kd.int IntKind.i64, Kd.int IntKind.i64] (vev17_0 l es)], []) else none := by
  have h : evFin (cfg Try.prog tab 100000 (gk k9 30) lsp17 17 ([] : List Blk).length Try.f17.ntmps) ([] : List Blk).length Try.f17.resultTypes.toList Try.f17 [.agg [.int .i64 l, .sl .imm [.int .i64, .int .i64, .int .i64, .int .i64] es]] [] = bif (spI g17_3 n17_3 y17_3 z17_3 d17_3 ((l, l, es, (0 : Int)), (0 : Int), [])).fst then some (true, AV.agg [AV.int IntKind.i64 l, AV.sl Tk.imm [Kd.int IntKind.i64, Kd.int IntKind.i64, Kd.int IntKind.i64, Kd.int IntKind.i64] (rev17_0 l es).snd], []) else none := by kernel_rfl
  rw [h]
  clear h
  unfold vev17_0 vev17_1
  generalize ((spI g17_3 n17_3 y17_3 z17_3 d17_3 ((l, l, es, (0 : Int)), (0 : Int), [])).fst) = c0
  cases c0
  · skip
    rfl
  · skip
    rfl
-- spec vev17_1 l es ;; (true, AV.agg [AV.int IntKind.i64 l, AV.sl Tk.imm [Kd.int IntKind.i64, Kd.int IntKind.i64, Kd.int IntKind.i64, Kd.int IntKind.i64] (vev17_0 l es)], [])
noncomputable def sp17 : List AV → List Blk → Option (Bool × AV × List Blk)
  | [.agg [.int .i64 l, .sl .imm [.int .i64, .int .i64, .int .i64, .int .i64] es]], [] => spW (vev17_1 l es) (some ((true, AV.agg [AV.int IntKind.i64 l, AV.sl Tk.imm [Kd.int IntKind.i64, Kd.int IntKind.i64, Kd.int IntKind.i64, Kd.int IntKind.i64] (vev17_0 l es)], [])))
  | _, _ => none
noncomputable def k17 : Gam := fun f T C => match Nat.beq f 17 with
  | true => (sp17 T C).or (k9 f T C)
  | false => k9 f T C
theorem k17_ok : GamOK Try.prog k17 := by
  intro f T C r outs h
  unfold k17 at h
  cases hf : Nat.beq f 17 with
  | false => rw [hf] at h; exact k9_ok f T C r outs h
  | true =>
    have hf' := Nat.eq_of_beq_eq_true hf
    subst hf'
    rw [hf] at h
    dsimp only at h
    cases hs : sp17 T C with
    | none => rw [hs] at h; exact k9_ok _ T C r outs h
    | some x =>
      rw [hs] at h
      have hx : x = (true, r, outs) := by simpa using h
      subst hx
      unfold sp17 at hs
      split at hs
      · rename_i l es
        obtain ⟨hb, rfl, rfl⟩ := spT_inv hs
        have he := ev17 l es
        rw [hb, cond_true] at he
        obtain ⟨r0, o0, h0, he⟩ := evFin_inv he
        obtain ⟨h1, h2⟩ := fn_ok mixed plain (gk_ok k9_ok 30) Try.func17 loops17 h0
        exact ⟨h1, h2.fin he⟩
      · cases hs
end Go.Proofs.Gv
