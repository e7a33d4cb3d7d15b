import Derived.Test.YtgpmodjpehimhaaGt
import Derived.KernelRfl
import Derived.Test.YtgpmodjpehimhaaGwF
import Derived.Test.YtgpmodjpehimhaaGaId
namespace Go.Proofs.Gv
open Go.Proofs
set_option linter.unusedVariables false
noncomputable def vev15_0 (n : Int) : Bool := bif decide (n > (0 : Int)) then bif bif true then decide (n ≤ (2147483647 : Int)) else false then bif true then bits BinOp.and IntKind.i64 n (1 : Int) == (1 : Int) else false else false else false
theorem ev15 (n : Int) : evFin (cfg Try.prog tab 100000 (gk k6 30) noLsp 15 ([] : List Blk).length Try.f15.ntmps) ([] : List Blk).length Try.f15.resultTypes.toList Try.f15 [.int .i64 n] [] = bif true then some (true, AV.bool (vev15_0 n), []) else none := by
  have h : evFin (cfg Try.prog tab 100000 (gk k6 30) noLsp 15 ([] : List Blk).length Try.f15.ntmps) ([] : List Blk).length Try.f15.resultTypes.toList Try.f15 [.int .i64 n] [] = bif bif decide (n > (0 : Int)) then bif bif true then decide (n ≤ (2147483647 : Int)) else false then true else true else true then some (true, AV.bool (bif decide (n > (0 : Int)) then bif bif true then decide (n ≤ (2147483647 : Int)) else false then bif true then bits BinOp.and IntKind.i64 n (1 : Int) == (1 : Int) else false else false else false), []) else none := by kernel_rfl
  rw [h]
  clear h
  unfold vev15_0
  generalize (decide (n ≤ (2147483647 : Int))) = c0
  generalize (decide (n > (0 : Int))) = c1
  cases c1
  · skip
    rfl
  · skip
    cases c0
    · skip
      rfl
    · skip
      rfl
-- spec true ;; (true, AV.bool (vev15_0 n), [])
noncomputable def sp15 : List AV → List Blk → Option (Bool × AV × List Blk)
  | [.int .i64 n], [] => spW (true) (some ((true, AV.bool (vev15_0 n), [])))
  | _, _ => none
noncomputable def k15 : Gam := fun f T C => match Nat.beq f 15 with
  | true => (sp15 T C).or (k6 f T C)
  | false => k6 f T C
theorem k15_ok : GamOK Try.prog k15 := by
  intro f T C r outs h
  unfold k15 at h
  cases hf : Nat.beq f 15 with
  | false => rw [hf] at h; exact k6_ok f T C r outs h
  | true =>
    have hf' := Nat.eq_of_beq_eq_true hf
    subst hf'
    rw [hf] at h
    dsimp only at h
    cases hs : sp15 T C with
    | none => rw [hs] at h; exact k6_ok _ T C r outs h
    | some x =>
      rw [hs] at h
      have hx : x = (true, r, outs) := by simpa using h
      subst hx
      unfold sp15 at hs
      split at hs
      · rename_i n
        obtain ⟨hb, rfl, rfl⟩ := spT_inv hs
        have he := ev15 n
        obtain ⟨r0, o0, h0, he⟩ := evFin_inv he
        obtain ⟨h1, h2⟩ := fn_ok mixed plain (gk_ok k6_ok 30) Try.func15 (fun c _ => LoopsOK.none (fun _ _ => rfl) c) h0
        exact ⟨h1, h2.fin he⟩
      · cases hs
noncomputable def vev16_0 (n : Int) : Bool := bif decide (n ≥ (1 : Int)) then bif bif true then decide (n ≤ (2147483647 : Int)) else false then bif true then n.tmod (2 : Int) == (1 : Int) else false else false else false
theorem ev16 (n : Int) : evFin (cfg Try.prog tab 100000 (gk k15 30) noLsp 16 ([] : List Blk).length Try.f16.ntmps) ([] : List Blk).length Try.f16.resultTypes.toList Try.f16 [.int .i64 n] [] = bif true then some (true, AV.bool (vev16_0 n), []) else none := by
  have h : evFin (cfg Try.prog tab 100000 (gk k15 30) noLsp 16 ([] : List Blk).length Try.f16.ntmps) ([] : List Blk).length Try.f16.resultTypes.toList Try.f16 [.int .i64 n] [] = bif bif decide (n ≥ (1 : Int)) then bif bif true then decide (n ≤ (2147483647 : Int)) else false then true else true else true then some (true, AV.bool (bif decide (n ≥ (1 : Int)) then bif bif true then decide (n ≤ (2147483647 : Int)) else false then bif true then n.tmod (2 : Int) == (1 : Int) else false else false else false), []) else none := by kernel_rfl
  rw [h]
  clear h
  unfold vev16_0
  generalize (decide (n ≤ (2147483647 : Int))) = c0
  generalize (decide (n ≥ (1 : Int))) = c1
  cases c1
  · skip
    rfl
  · skip
    cases c0
    · skip
      rfl
    · skip
      rfl
-- spec true ;; (true, AV.bool (vev16_0 n), [])
noncomputable def sp16 : List AV → List Blk → Option (Bool × AV × List Blk)
  | [.int .i64 n], [] => spW (true) (some ((true, AV.bool (vev16_0 n), [])))
  | _, _ => none
noncomputable def k16 : Gam := fun f T C => match Nat.beq f 16 with
  | true => (sp16 T C).or (k15 f T C)
  | false => k15 f T C
theorem k16_ok : GamOK Try.prog k16 := by
  intro f T C r outs h
  unfold k16 at h
  cases hf : Nat.beq f 16 with
  | false => rw [hf] at h; exact k15_ok f T C r outs h
  | true =>
    have hf' := Nat.eq_of_beq_eq_true hf
    subst hf'
    rw [hf] at h
    dsimp only at h
    cases hs : sp16 T C with
    | none => rw [hs] at h; exact k15_ok _ T C r outs h
    | some x =>
      rw [hs] at h
      have hx : x = (true, r, outs) := by simpa using h
      subst hx
      unfold sp16 at hs
      split at hs
      · rename_i n
        obtain ⟨hb, rfl, rfl⟩ := spT_inv hs
        have he := ev16 n
        obtain ⟨r0, o0, h0, he⟩ := evFin_inv he
        obtain ⟨h1, h2⟩ := fn_ok mixed plain (gk_ok k15_ok 30) Try.func16 (fun c _ => LoopsOK.none (fun _ _ => rfl) c) h0
        exact ⟨h1, h2.fin he⟩
      · cases hs
noncomputable def go17_2 (t0k : Tk) (t0 : List (List AV)) (t1 : Int) (t5 : Int) : Bool := bif decide (t5 < (↑t0.length : Int)) then bif decide ((0 : Int) ≤ t5) && decide (t5 < (↑t0.length : Int)) then bif intOf ((t0.getD t5.toNat []).getD (0 : Nat) AV.junk) == t1 then false else true else false else false
noncomputable def nx17_2_3 (t0k : Tk) (t0 : List (List AV)) (t1 : Int) (t5 : Int) : Int := IntKind.i64.wrap (t5 + (1 : Int))
noncomputable def xc17_2_0 (t0k : Tk) (t0 : List (List AV)) (t1 : Int) (t5 : Int) : Bool := bif decide (t5 < (↑t0.length : Int)) then bif decide ((0 : Int) ≤ t5) && decide (t5 < (↑t0.length : Int)) then intOf ((t0.getD t5.toNat []).getD (0 : Nat) AV.junk) == t1 else false else false
noncomputable def xc17_2_1 (t0k : Tk) (t0 : List (List AV)) (t1 : Int) (t5 : Int) : Bool := bif decide (t5 < (↑t0.length : Int)) then false else true
theorem rd17_2 (rest : Lsp) (t0k : Tk) (t0 : List (List AV)) (t1 : Int) (t5 : Int) : roundV (cfg Try.prog tab 100000 (gk k16 30) rest 17 0 Try.f17.ntmps) (loopAt Try.f17 2) [0, 1, 5] [] [4] [] [AV.sl t0k [Kd.int IntKind.i64] t0, AV.int IntKind.i64 t1, AV.int IntKind.i64 t5] [] = bif go17_2 t0k t0 t1 t5 then some (Ex.norm, [AV.sl t0k [Kd.int IntKind.i64] t0, AV.int IntKind.i64 t1, AV.int IntKind.i64 (nx17_2_3 t0k t0 t1 t5)], []) else bif xc17_2_0 t0k t0 t1 t5 then some (Ex.ret, [AV.bool true], []) else bif xc17_2_1 t0k t0 t1 t5 then some (Ex.exit (nat_lit 0), [AV.junk], []) else none := by
  have h : roundV (cfg Try.prog tab 100000 (gk k16 30) rest 17 0 Try.f17.ntmps) (loopAt Try.f17 2) [0, 1, 5] [] [4] [] [AV.sl t0k [Kd.int IntKind.i64] t0, AV.int IntKind.i64 t1, AV.int IntKind.i64 t5] [] = bif decide (t5 < (↑t0.length : Int)) then bif decide ((0 : Int) ≤ t5) && decide (t5 < (↑t0.length : Int)) then bif intOf ((t0.getD t5.toNat []).getD (0 : Nat) AV.junk) == t1 then some (Ex.ret, [AV.bool true], []) else some (Ex.norm, [AV.sl t0k [Kd.int IntKind.i64] t0, AV.int IntKind.i64 t1, AV.int IntKind.i64 (IntKind.i64.wrap (t5 + (1 : Int)))], []) else none else some (Ex.exit (nat_lit 0), [AV.junk], []) := by kernel_rfl
  rw [h]
  clear h
  unfold go17_2 nx17_2_3 xc17_2_0 xc17_2_1
  generalize (decide ((0 : Int) ≤ t5) && decide (t5 < (↑t0.length : Int))) = c0
  generalize (intOf ((t0.getD t5.toNat []).getD (0 : Nat) AV.junk) == t1) = c1
  generalize (decide (t5 < (↑t0.length : Int))) = c2
  cases c2
  · skip
    rfl
  · skip
    cases c0
    · skip
      rfl
    · skip
      cases c1
      · skip
        rfl
      · skip
        rfl
abbrev pl17_2 : Type := Tk × (List (List AV)) × Int
abbrev sl17_2 : Type := Int
noncomputable def vt17_2 (a : pl17_2 × sl17_2) : List AV := [AV.sl a.1.1 [Kd.int IntKind.i64] a.1.2.1, AV.int IntKind.i64 a.1.2.2, AV.int IntKind.i64 a.2]
noncomputable def vc17_2 (a : pl17_2 × sl17_2) : List Blk := []
noncomputable def de17_2 (vt : List AV) (vc : List Blk) : Option (pl17_2 × sl17_2) :=
  match vt with
  | [qa0, qa1, qa2] => (match vc with
  | [] => (match qa0 with
  | AV.sl t0k [Kd.int IntKind.i64] t0 => (match qa1 with
  | AV.int IntKind.i64 t1 => (match qa2 with
  | AV.int IntKind.i64 t5 => (some ((t0k, t0, t1), t5))
  | _ => none)
  | _ => none)
  | _ => none)
  | _ => none)
  | _ => none
theorem de17_2_ok (vt : List AV) (vc : List Blk) (a : pl17_2 × sl17_2) (h : de17_2 vt vc = some a) : vt = vt17_2 a ∧ vc = vc17_2 a := by
  unfold de17_2 at h
  split at h
  rotate_left
  · cases h
  split at h
  rotate_left
  · cases h
  split at h
  rotate_left
  · cases h
  split at h
  rotate_left
  · cases h
  split at h
  rotate_left
  · cases h
  injection h with h
  subst h
  exact ⟨rfl, rfl⟩
noncomputable def g17_2 (p : pl17_2) (s : sl17_2) : Bool := go17_2 p.1 p.2.1 p.2.2 s
noncomputable def n17_2 (p : pl17_2) (s : sl17_2) : sl17_2 := nx17_2_3 p.1 p.2.1 p.2.2 s
noncomputable def y17_2 (p : pl17_2) (s : sl17_2) : List (Bool × Out) := [(xc17_2_0 p.1 p.2.1 p.2.2 s, (Ex.ret, [AV.bool true], []))]
noncomputable def z17_2 (p : pl17_2) (s : sl17_2) : Bool := xc17_2_1 p.1 p.2.1 p.2.2 s
noncomputable def d17_2 (p : pl17_2) (s : sl17_2) : Out := (Ex.exit (nat_lit 0), [AV.junk], [])
noncomputable def ls17_2 : St → Option (Bool × List (Bool × Ex × St) × Ex × St) := lspOf [0, 1, 5] [] [4] [] Try.f17.ntmps (0 + tab.nid 17) de17_2 (spI g17_2 n17_2 y17_2 z17_2 d17_2)
theorem lo17_2 (rest : Lsp) : LoopOK1 (cfg Try.prog tab 100000 (gk k16 30) (selL 2 ls17_2 rest) 17 0 Try.f17.ntmps) (loopAt Try.f17 2) := LoopOK1.iter (i := 2) (by kernel_rfl) [0, 1, 5] [] [4] [] vt17_2 vc17_2 de17_2 g17_2 n17_2 y17_2 z17_2 d17_2 (fun _ => rfl) de17_2_ok (fun p s => rd17_2 (selL 2 ls17_2 rest) (p.1) (p.2.1) (p.2.2) s) (fun _ _ => rfl)
noncomputable def lsp17 : Lsp := (selL 2 ls17_2 noLsp)
theorem loops17 : ∀ c, Try.f17.body = some c → LoopsOK (cfg Try.prog tab 100000 (gk k16 30) lsp17 17 0 Try.f17.ntmps) c := loops_of [2] (by kernel_rfl) (by kernel_rfl) (fun i hi => by
  simp only [List.mem_cons, List.not_mem_nil, or_false] at hi
  subst hi
  · exact lo17_2 noLsp)
noncomputable def rev17_0 (tk : Tk) (es : List (List AV)) (n : Int) : sl17_2 := finL (g17_2 (tk, es, n)) (n17_2 (tk, es, n)) (0 : Int)
noncomputable def vev17_0 (tk : Tk) (es : List (List AV)) (n : Int) : Bool := bif xc17_2_0 tk es n (rev17_0 tk es n) then true else false
noncomputable def vev17_1 (tk : Tk) (es : List (List AV)) (n : Int) : Bool := bif (spI g17_2 n17_2 y17_2 z17_2 d17_2 ((tk, es, n), (0 : Int))).fst then true else false
theorem ev17 (tk : Tk) (es : List (List AV)) (n : Int) : evFin (cfg Try.prog tab 100000 (gk k16 30) lsp17 17 ([] : List Blk).length Try.f17.ntmps) ([] : List Blk).length Try.f17.resultTypes.toList Try.f17 [.sl tk [.int .i64] es, .int .i64 n] [] = bif vev17_1 tk es n then some (true, AV.bool (vev17_0 tk es n), []) else none := by
  have h : evFin (cfg Try.prog tab 100000 (gk k16 30) lsp17 17 ([] : List Blk).length Try.f17.ntmps) ([] : List Blk).length Try.f17.resultTypes.toList Try.f17 [.sl tk [.int .i64] es, .int .i64 n] [] = bif (spI g17_2 n17_2 y17_2 z17_2 d17_2 ((tk, es, n), (0 : Int))).fst then bif xc17_2_0 tk es n (rev17_0 tk es n) then some (true, AV.bool true, []) else some (true, AV.bool false, []) else none := by kernel_rfl
  rw [h]
  clear h
  unfold vev17_0 vev17_1
  generalize ((spI g17_2 n17_2 y17_2 z17_2 d17_2 ((tk, es, n), (0 : Int))).fst) = c0
  generalize (xc17_2_0 tk es n (rev17_0 tk es n)) = c1
  cases c0
  · skip
    rfl
  · skip
    cases c1
    · skip
      rfl
    · skip
      rfl
-- spec vev17_1 tk es n ;; (true, AV.bool (vev17_0 tk es n), [])
noncomputable def sp17 : List AV → List Blk → Option (Bool × AV × List Blk)
  | [.sl tk [.int .i64] es, .int .i64 n], [] => spW (vev17_1 tk es n) (some ((true, AV.bool (vev17_0 tk es n), [])))
  | _, _ => none
noncomputable def k17 : Gam := fun f T C => match Nat.beq f 17 with
  | true => (sp17 T C).or (k16 f T C)
  | false => k16 f T C
theorem k17_ok : GamOK Try.prog k17 := by
  intro f T C r outs h
  unfold k17 at h
  cases hf : Nat.beq f 17 with
  | false => rw [hf] at h; exact k16_ok f T C r outs h
  | true =>
    have hf' := Nat.eq_of_beq_eq_true hf
    subst hf'
    rw [hf] at h
    dsimp only at h
    cases hs : sp17 T C with
    | none => rw [hs] at h; exact k16_ok _ T C r outs h
    | some x =>
      rw [hs] at h
      have hx : x = (true, r, outs) := by simpa using h
      subst hx
      unfold sp17 at hs
      split at hs
      · rename_i tk es n
        obtain ⟨hb, rfl, rfl⟩ := spT_inv hs
        have he := ev17 tk es n
        rw [hb, cond_true] at he
        obtain ⟨r0, o0, h0, he⟩ := evFin_inv he
        obtain ⟨h1, h2⟩ := fn_ok mixed plain (gk_ok k16_ok 30) Try.func17 loops17 h0
        exact ⟨h1, h2.fin he⟩
      · cases hs
noncomputable def vev18_0 (n : Int) (l : Int) (tk : Tk) (es : List (List AV)) (tk2 : Tk) (es2 : List (List AV)) : Bool := bif !vev15_0 n then true else bif false then true else decide (n > l)
theorem ev18 (n : Int) (l : Int) (tk : Tk) (es : List (List AV)) (tk2 : Tk) (es2 : List (List AV)) : evFin (cfg Try.prog tab 100000 (gk k17 30) noLsp 18 ([.var [.int .i64 l, .sl tk [.int .i64] es, .sl tk2 [.int .i64] es2]] : List Blk).length Try.f18.ntmps) ([.var [.int .i64 l, .sl tk [.int .i64] es, .sl tk2 [.int .i64] es2]] : List Blk).length Try.f18.resultTypes.toList Try.f18 [.int .i64 n, .hp 0 0] [.var [.int .i64 l, .sl tk [.int .i64] es, .sl tk2 [.int .i64] es2]] = bif true then some (true, AV.bool (vev18_0 n l tk es tk2 es2), [Blk.var [AV.int IntKind.i64 l, AV.sl tk [Kd.int IntKind.i64] es, AV.sl tk2 [Kd.int IntKind.i64] es2]]) else none := by
  have h : evFin (cfg Try.prog tab 100000 (gk k17 30) noLsp 18 ([.var [.int .i64 l, .sl tk [.int .i64] es, .sl tk2 [.int .i64] es2]] : List Blk).length Try.f18.ntmps) ([.var [.int .i64 l, .sl tk [.int .i64] es, .sl tk2 [.int .i64] es2]] : List Blk).length Try.f18.resultTypes.toList Try.f18 [.int .i64 n, .hp 0 0] [.var [.int .i64 l, .sl tk [.int .i64] es, .sl tk2 [.int .i64] es2]] = bif bif !vev15_0 n then true else true then some (true, AV.bool (bif !vev15_0 n then true else bif false then true else decide (n > l)), [Blk.var [AV.int IntKind.i64 l, AV.sl tk [Kd.int IntKind.i64] es, AV.sl tk2 [Kd.int IntKind.i64] es2]]) else none := by kernel_rfl
  rw [h]
  clear h
  unfold vev18_0
  generalize (!vev15_0 n) = c0
  cases c0
  · skip
    rfl
  · skip
    rfl
-- spec true ;; (true, AV.bool (vev18_0 n l tk es tk2 es2), [Blk.var [AV.int IntKind.i64 l, AV.sl tk [Kd.int IntKind.i64] es, AV.sl tk2 [Kd.int IntKind.i64] es2]])
noncomputable def sp18 : List AV → List Blk → Option (Bool × AV × List Blk)
  | [.int .i64 n, .hp 0 0], [.var [.int .i64 l, .sl tk [.int .i64] es, .sl tk2 [.int .i64] es2]] => spW (true) (some ((true, AV.bool (vev18_0 n l tk es tk2 es2), [Blk.var [AV.int IntKind.i64 l, AV.sl tk [Kd.int IntKind.i64] es, AV.sl tk2 [Kd.int IntKind.i64] es2]])))
  | _, _ => none
noncomputable def k18 : Gam := fun f T C => match Nat.beq f 18 with
  | true => (sp18 T C).or (k17 f T C)
  | false => k17 f T C
theorem k18_ok : GamOK Try.prog k18 := by
  intro f T C r outs h
  unfold k18 at h
  cases hf : Nat.beq f 18 with
  | false => rw [hf] at h; exact k17_ok f T C r outs h
  | true =>
    have hf' := Nat.eq_of_beq_eq_true hf
    subst hf'
    rw [hf] at h
    dsimp only at h
    cases hs : sp18 T C with
    | none => rw [hs] at h; exact k17_ok _ T C r outs h
    | some x =>
      rw [hs] at h
      have hx : x = (true, r, outs) := by simpa using h
      subst hx
      unfold sp18 at hs
      split at hs
      · rename_i n l tk es tk2 es2
        obtain ⟨hb, rfl, rfl⟩ := spT_inv hs
        have he := ev18 n l tk es tk2 es2
        obtain ⟨r0, o0, h0, he⟩ := evFin_inv he
        obtain ⟨h1, h2⟩ := fn_ok mixed plain (gk_ok k17_ok 30) Try.func18 (fun c _ => LoopsOK.none (fun _ _ => rfl) c) h0
        exact ⟨h1, h2.fin he⟩
      · cases hs
noncomputable def rn19_2_0 (t0k : Tk) (t0 : List (List AV)) (t3 : Int) : Int := IntKind.i64.wrap (t3 - (1 : Int))
noncomputable def rn19_2_1 (t0k : Tk) (t0 : List (List AV)) (t3 : Int) : Int := intOf ((t0.getD t3.toNat []).getD (0 : Nat) AV.junk)
noncomputable def rn19_2_2 (t0k : Tk) (t0 : List (List AV)) (t3 : Int) : Int := intOf ((t0.getD (rn19_2_0 t0k t0 t3).toNat []).getD (0 : Nat) AV.junk)
noncomputable def go19_2 (t0k : Tk) (t0 : List (List AV)) (t3 : Int) : Bool := bif decide (t3 < (↑t0.length : Int)) then bif decide ((0 : Int) ≤ t3) && decide (t3 < (↑t0.length : Int)) then bif decide ((0 : Int) ≤ rn19_2_0 t0k t0 t3) && decide (rn19_2_0 t0k t0 t3 < (↑t0.length : Int)) then bif decide (rn19_2_1 t0k t0 t3 ≤ rn19_2_2 t0k t0 t3) then false else true else false else false else false
noncomputable def nx19_2_2 (t0k : Tk) (t0 : List (List AV)) (t3 : Int) : Int := IntKind.i64.wrap (t3 + (1 : Int))
noncomputable def xc19_2_0 (t0k : Tk) (t0 : List (List AV)) (t3 : Int) : Bool := bif decide (t3 < (↑t0.length : Int)) then bif decide ((0 : Int) ≤ t3) && decide (t3 < (↑t0.length : Int)) then bif decide ((0 : Int) ≤ rn19_2_0 t0k t0 t3) && decide (rn19_2_0 t0k t0 t3 < (↑t0.length : Int)) then decide (rn19_2_1 t0k t0 t3 ≤ rn19_2_2 t0k t0 t3) else false else false else false
noncomputable def xc19_2_1 (t0k : Tk) (t0 : List (List AV)) (t3 : Int) : Bool := bif decide (t3 < (↑t0.length : Int)) then false else true
theorem rd19_2 (rest : Lsp) (t0k : Tk) (t0 : List (List AV)) (t3 : Int) : roundV (cfg Try.prog tab 100000 (gk k18 30) rest 19 0 Try.f19.ntmps) (loopAt Try.f19 2) [0, 3] [] [2] [] [AV.sl t0k [Kd.int IntKind.i64] t0, AV.int IntKind.i64 t3] [] = bif go19_2 t0k t0 t3 then some (Ex.norm, [AV.sl t0k [Kd.int IntKind.i64] t0, AV.int IntKind.i64 (nx19_2_2 t0k t0 t3)], []) else bif xc19_2_0 t0k t0 t3 then some (Ex.ret, [AV.bool false], []) else bif xc19_2_1 t0k t0 t3 then some (Ex.exit (nat_lit 0), [AV.junk], []) else none := by
  have h : roundV (cfg Try.prog tab 100000 (gk k18 30) rest 19 0 Try.f19.ntmps) (loopAt Try.f19 2) [0, 3] [] [2] [] [AV.sl t0k [Kd.int IntKind.i64] t0, AV.int IntKind.i64 t3] [] = bif decide (t3 < (↑t0.length : Int)) then bif decide ((0 : Int) ≤ t3) && decide (t3 < (↑t0.length : Int)) then bif decide ((0 : Int) ≤ rn19_2_0 t0k t0 t3) && decide (rn19_2_0 t0k t0 t3 < (↑t0.length : Int)) then bif decide (rn19_2_1 t0k t0 t3 ≤ rn19_2_2 t0k t0 t3) then some (Ex.ret, [AV.bool false], []) else some (Ex.norm, [AV.sl t0k [Kd.int IntKind.i64] t0, AV.int IntKind.i64 (IntKind.i64.wrap (t3 + (1 : Int)))], []) else none else none else some (Ex.exit (nat_lit 0), [AV.junk], []) := by kernel_rfl
  rw [h]
  clear h
  unfold go19_2 nx19_2_2 xc19_2_0 xc19_2_1
  generalize (decide ((0 : Int) ≤ rn19_2_0 t0k t0 t3) && decide (rn19_2_0 t0k t0 t3 < (↑t0.length : Int))) = c0
  generalize (decide ((0 : Int) ≤ t3) && decide (t3 < (↑t0.length : Int))) = c1
  generalize (decide (rn19_2_1 t0k t0 t3 ≤ rn19_2_2 t0k t0 t3)) = c2
  generalize (decide (t3 < (↑t0.length : Int))) = c3
  cases c3
  · skip
    rfl
  · skip
    cases c1
    · skip
      rfl
    · skip
      cases c0
      · skip
        rfl
      · skip
        cases c2
        · skip
          rfl
        · skip
          rfl
abbrev pl19_2 : Type := Tk × (List (List AV))
abbrev sl19_2 : Type := Int
noncomputable def vt19_2 (a : pl19_2 × sl19_2) : List AV := [AV.sl a.1.1 [Kd.int IntKind.i64] a.1.2, AV.int IntKind.i64 a.2]
noncomputable def vc19_2 (a : pl19_2 × sl19_2) : List Blk := []
noncomputable def de19_2 (vt : List AV) (vc : List Blk) : Option (pl19_2 × sl19_2) :=
  match vt with
  | [qa0, qa1] => (match vc with
  | [] => (match qa0 with
  | AV.sl t0k [Kd.int IntKind.i64] t0 => (match qa1 with
  | AV.int IntKind.i64 t3 => (some ((t0k, t0), t3))
  | _ => none)
  | _ => none)
  | _ => none)
  | _ => none
theorem de19_2_ok (vt : List AV) (vc : List Blk) (a : pl19_2 × sl19_2) (h : de19_2 vt vc = some a) : vt = vt19_2 a ∧ vc = vc19_2 a := by
  unfold de19_2 at h
  split at h
  rotate_left
  · cases h
  split at h
  rotate_left
  · cases h
  split at h
  rotate_left
  · cases h
  split at h
  rotate_left
  · cases h
  injection h with h
  subst h
  exact ⟨rfl, rfl⟩
noncomputable def g19_2 (p : pl19_2) (s : sl19_2) : Bool := go19_2 p.1 p.2 s
noncomputable def n19_2 (p : pl19_2) (s : sl19_2) : sl19_2 := nx19_2_2 p.1 p.2 s
noncomputable def y19_2 (p : pl19_2) (s : sl19_2) : List (Bool × Out) := [(xc19_2_0 p.1 p.2 s, (Ex.ret, [AV.bool false], []))]
noncomputable def z19_2 (p : pl19_2) (s : sl19_2) : Bool := xc19_2_1 p.1 p.2 s
noncomputable def d19_2 (p : pl19_2) (s : sl19_2) : Out := (Ex.exit (nat_lit 0), [AV.junk], [])
noncomputable def ls19_2 : St → Option (Bool × List (Bool × Ex × St) × Ex × St) := lspOf [0, 3] [] [2] [] Try.f19.ntmps (0 + tab.nid 19) de19_2 (spI g19_2 n19_2 y19_2 z19_2 d19_2)
theorem lo19_2 (rest : Lsp) : LoopOK1 (cfg Try.prog tab 100000 (gk k18 30) (selL 2 ls19_2 rest) 19 0 Try.f19.ntmps) (loopAt Try.f19 2) := LoopOK1.iter (i := 2) (by kernel_rfl) [0, 3] [] [2] [] vt19_2 vc19_2 de19_2 g19_2 n19_2 y19_2 z19_2 d19_2 (fun _ => rfl) de19_2_ok (fun p s => rd19_2 (selL 2 ls19_2 rest) (p.1) (p.2) s) (fun _ _ => rfl)
noncomputable def lsp19 : Lsp := (selL 2 ls19_2 noLsp)
theorem loops19 : ∀ c, Try.f19.body = some c → LoopsOK (cfg Try.prog tab 100000 (gk k18 30) lsp19 19 0 Try.f19.ntmps) c := loops_of [2] (by kernel_rfl) (by kernel_rfl) (fun i hi => by
  simp only [List.mem_cons, List.not_mem_nil, or_false] at hi
  subst hi
  · exact lo19_2 noLsp)
noncomputable def rev19_0 (tk : Tk) (es : List (List AV)) : sl19_2 := finL (g19_2 (tk, es)) (n19_2 (tk, es)) (1 : Int)
noncomputable def vev19_0 (tk : Tk) (es : List (List AV)) : Bool := bif xc19_2_0 tk es (rev19_0 tk es) then false else true
noncomputable def vev19_1 (tk : Tk) (es : List (List AV)) : Bool := bif (spI g19_2 n19_2 y19_2 z19_2 d19_2 ((tk, es), (1 : Int))).fst then true else false
theorem ev19 (tk : Tk) (es : List (List AV)) : evFin (cfg Try.prog tab 100000 (gk k18 30) lsp19 19 ([] : List Blk).length Try.f19.ntmps) ([] : List Blk).length Try.f19.resultTypes.toList Try.f19 [.sl tk [.int .i64] es] [] = bif vev19_1 tk es then some (true, AV.bool (vev19_0 tk es), []) else none := by
  have h : evFin (cfg Try.prog tab 100000 (gk k18 30) lsp19 19 ([] : List Blk).length Try.f19.ntmps) ([] : List Blk).length Try.f19.resultTypes.toList Try.f19 [.sl tk [.int .i64] es] [] = bif (spI g19_2 n19_2 y19_2 z19_2 d19_2 ((tk, es), (1 : Int))).fst then bif xc19_2_0 tk es (rev19_0 tk es) then some (true, AV.bool false, []) else some (true, AV.bool true, []) else none := by kernel_rfl
  rw [h]
  clear h
  unfold vev19_0 vev19_1
  generalize ((spI g19_2 n19_2 y19_2 z19_2 d19_2 ((tk, es), (1 : Int))).fst) = c0
  generalize (xc19_2_0 tk es (rev19_0 tk es)) = c1
  cases c0
  · skip
    rfl
  · skip
    cases c1
    · skip
      rfl
    · skip
      rfl
-- spec vev19_1 tk es ;; (true, AV.bool (vev19_0 tk es), [])
noncomputable def sp19 : List AV → List Blk → Option (Bool × AV × List Blk)
  | [.sl tk [.int .i64] es], [] => spW (vev19_1 tk es) (some ((true, AV.bool (vev19_0 tk es), [])))
  | _, _ => none
noncomputable def k19 : Gam := fun f T C => match Nat.beq f 19 with
  | true => (sp19 T C).or (k18 f T C)
  | false => k18 f T C
theorem k19_ok : GamOK Try.prog k19 := by
  intro f T C r outs h
  unfold k19 at h
  cases hf : Nat.beq f 19 with
  | false => rw [hf] at h; exact k18_ok f T C r outs h
  | true =>
    have hf' := Nat.eq_of_beq_eq_true hf
    subst hf'
    rw [hf] at h
    dsimp only at h
    cases hs : sp19 T C with
    | none => rw [hs] at h; exact k18_ok _ T C r outs h
    | some x =>
      rw [hs] at h
      have hx : x = (true, r, outs) := by simpa using h
      subst hx
      unfold sp19 at hs
      split at hs
      · rename_i tk es
        obtain ⟨hb, rfl, rfl⟩ := spT_inv hs
        have he := ev19 tk es
        rw [hb, cond_true] at he
        obtain ⟨r0, o0, h0, he⟩ := evFin_inv he
        obtain ⟨h1, h2⟩ := fn_ok mixed plain (gk_ok k18_ok 30) Try.func19 loops19 h0
        exact ⟨h1, h2.fin he⟩
      · cases hs
noncomputable def go28_2 (t0k : Tk) (t0 : List (List AV)) (t7 : Int) (t8 : Int) (b0_0 : Int) (b0_1k : Tk) (b0_1 : List (List AV)) (b0_2k : Tk) (b0_2 : List (List AV)) : Bool := bif decide (t8 < t7) then bif decide ((0 : Int) ≤ t8) && decide (t8 < (↑t0.length : Int)) then bif vev18_0 (intOf ((t0.getD t8.toNat []).getD (0 : Nat) AV.junk)) b0_0 b0_1k b0_1 b0_2k b0_2 then false else true else false else false
noncomputable def nx28_2_3 (t0k : Tk) (t0 : List (List AV)) (t7 : Int) (t8 : Int) (b0_0 : Int) (b0_1k : Tk) (b0_1 : List (List AV)) (b0_2k : Tk) (b0_2 : List (List AV)) : Int := IntKind.i64.wrap (t8 + (1 : Int))
noncomputable def xc28_2_0 (t0k : Tk) (t0 : List (List AV)) (t7 : Int) (t8 : Int) (b0_0 : Int) (b0_1k : Tk) (b0_1 : List (List AV)) (b0_2k : Tk) (b0_2 : List (List AV)) : Bool := bif decide (t8 < t7) then bif decide ((0 : Int) ≤ t8) && decide (t8 < (↑t0.length : Int)) then vev18_0 (intOf ((t0.getD t8.toNat []).getD (0 : Nat) AV.junk)) b0_0 b0_1k b0_1 b0_2k b0_2 else false else false
noncomputable def xc28_2_1 (t0k : Tk) (t0 : List (List AV)) (t7 : Int) (t8 : Int) (b0_0 : Int) (b0_1k : Tk) (b0_1 : List (List AV)) (b0_2k : Tk) (b0_2 : List (List AV)) : Bool := bif decide (t8 < t7) then false else true
theorem rd28_2 (rest : Lsp) (t0k : Tk) (t0 : List (List AV)) (t7 : Int) (t8 : Int) (b0_0 : Int) (b0_1k : Tk) (b0_1 : List (List AV)) (b0_2k : Tk) (b0_2 : List (List AV)) : roundV (cfg Try.prog tab 100000 (gk k19 30) rest 28 1 Try.f28.ntmps) (loopAt Try.f28 2) [0, 1, 7, 8] [0] [4] [0] [AV.sl t0k [Kd.int IntKind.i64] t0, AV.fn (nat_lit 18) [AV.hp (nat_lit 0) (nat_lit 0)], AV.int IntKind.i64 t7, AV.int IntKind.i64 t8] [Blk.var [AV.int IntKind.i64 b0_0, AV.sl b0_1k [Kd.int IntKind.i64] b0_1, AV.sl b0_2k [Kd.int IntKind.i64] b0_2]] = bif go28_2 t0k t0 t7 t8 b0_0 b0_1k b0_1 b0_2k b0_2 then some (Ex.norm, [AV.sl t0k [Kd.int IntKind.i64] t0, AV.fn (nat_lit 18) [AV.hp (nat_lit 0) (nat_lit 0)], AV.int IntKind.i64 t7, AV.int IntKind.i64 (nx28_2_3 t0k t0 t7 t8 b0_0 b0_1k b0_1 b0_2k b0_2)], [Blk.var [AV.int IntKind.i64 b0_0, AV.sl b0_1k [Kd.int IntKind.i64] b0_1, AV.sl b0_2k [Kd.int IntKind.i64] b0_2]]) else bif xc28_2_0 t0k t0 t7 t8 b0_0 b0_1k b0_1 b0_2k b0_2 then some (Ex.ret, [AV.int IntKind.i64 t8], [Blk.var [AV.int IntKind.i64 b0_0, AV.sl b0_1k [Kd.int IntKind.i64] b0_1, AV.sl b0_2k [Kd.int IntKind.i64] b0_2]]) else bif xc28_2_1 t0k t0 t7 t8 b0_0 b0_1k b0_1 b0_2k b0_2 then some (Ex.exit (nat_lit 0), [AV.junk], [Blk.var [AV.int IntKind.i64 b0_0, AV.sl b0_1k [Kd.int IntKind.i64] b0_1, AV.sl b0_2k [Kd.int IntKind.i64] b0_2]]) else none := by
  have h : roundV (cfg Try.prog tab 100000 (gk k19 30) rest 28 1 Try.f28.ntmps) (loopAt Try.f28 2) [0, 1, 7, 8] [0] [4] [0] [AV.sl t0k [Kd.int IntKind.i64] t0, AV.fn (nat_lit 18) [AV.hp (nat_lit 0) (nat_lit 0)], AV.int IntKind.i64 t7, AV.int IntKind.i64 t8] [Blk.var [AV.int IntKind.i64 b0_0, AV.sl b0_1k [Kd.int IntKind.i64] b0_1, AV.sl b0_2k [Kd.int IntKind.i64] b0_2]] = bif decide (t8 < t7) then bif decide ((0 : Int) ≤ t8) && decide (t8 < (↑t0.length : Int)) then bif vev18_0 (intOf ((t0.getD t8.toNat []).getD (0 : Nat) AV.junk)) b0_0 b0_1k b0_1 b0_2k b0_2 then some (Ex.ret, [AV.int IntKind.i64 t8], [Blk.var [AV.int IntKind.i64 b0_0, AV.sl b0_1k [Kd.int IntKind.i64] b0_1, AV.sl b0_2k [Kd.int IntKind.i64] b0_2]]) else some (Ex.norm, [AV.sl t0k [Kd.int IntKind.i64] t0, AV.fn (nat_lit 18) [AV.hp (nat_lit 0) (nat_lit 0)], AV.int IntKind.i64 t7, AV.int IntKind.i64 (IntKind.i64.wrap (t8 + (1 : Int)))], [Blk.var [AV.int IntKind.i64 b0_0, AV.sl b0_1k [Kd.int IntKind.i64] b0_1, AV.sl b0_2k [Kd.int IntKind.i64] b0_2]]) else none else some (Ex.exit (nat_lit 0), [AV.junk], [Blk.var [AV.int IntKind.i64 b0_0, AV.sl b0_1k [Kd.int IntKind.i64] b0_1, AV.sl b0_2k [Kd.int IntKind.i64] b0_2]]) := by kernel_rfl
  rw [h]
  clear h
  unfold go28_2 nx28_2_3 xc28_2_0 xc28_2_1
  generalize (decide ((0 : Int) ≤ t8) && decide (t8 < (↑t0.length : Int))) = c0
  generalize (vev18_0 (intOf ((t0.getD t8.toNat []).getD (0 : Nat) AV.junk)) b0_0 b0_1k b0_1 b0_2k b0_2) = c1
  generalize (decide (t8 < t7)) = c2
  cases c2
  · skip
    rfl
  · skip
    cases c0
    · skip
      rfl
    · skip
      cases c1
      · skip
        rfl
      · skip
        rfl
abbrev pl28_2 : Type := Tk × (List (List AV)) × Int × Int × Tk × (List (List AV)) × Tk × (List (List AV))
abbrev sl28_2 : Type := Int
noncomputable def vt28_2 (a : pl28_2 × sl28_2) : List AV := [AV.sl a.1.1 [Kd.int IntKind.i64] a.1.2.1, AV.fn (nat_lit 18) [AV.hp (nat_lit 0) (nat_lit 0)], AV.int IntKind.i64 a.1.2.2.1, AV.int IntKind.i64 a.2]
noncomputable def vc28_2 (a : pl28_2 × sl28_2) : List Blk := [Blk.var [AV.int IntKind.i64 a.1.2.2.2.1, AV.sl a.1.2.2.2.2.1 [Kd.int IntKind.i64] a.1.2.2.2.2.2.1, AV.sl a.1.2.2.2.2.2.2.1 [Kd.int IntKind.i64] a.1.2.2.2.2.2.2.2]]
noncomputable def de28_2 (vt : List AV) (vc : List Blk) : Option (pl28_2 × sl28_2) :=
  match vt with
  | [qa0, qa1, qa2, qa3] => (match vc with
  | [qb0] => (match qa0 with
  | AV.sl t0k [Kd.int IntKind.i64] t0 => (match qa1 with
  | AV.fn (18) [AV.hp (0) (0)] => (match qa2 with
  | AV.int IntKind.i64 t7 => (match qa3 with
  | AV.int IntKind.i64 t8 => (match qb0 with
  | Blk.var [AV.int IntKind.i64 b0_0, AV.sl b0_1k [Kd.int IntKind.i64] b0_1, AV.sl b0_2k [Kd.int IntKind.i64] b0_2] => (some ((t0k, t0, t7, b0_0, b0_1k, b0_1, b0_2k, b0_2), t8))
  | _ => none)
  | _ => none)
  | _ => none)
  | _ => none)
  | _ => none)
  | _ => none)
  | _ => none
theorem de28_2_ok (vt : List AV) (vc : List Blk) (a : pl28_2 × sl28_2) (h : de28_2 vt vc = some a) : vt = vt28_2 a ∧ vc = vc28_2 a := by
  unfold de28_2 at h
  split at h
  rotate_left
  · cases h
  split at h
  rotate_left
  · cases h
  split at h
  rotate_left
  · cases h
  split at h
  rotate_left
  · cases h
  split at h
  rotate_left
  · cases h
  split at h
  rotate_left
  · cases h
  split at h
  rotate_left
  · cases h
  injection h with h
  subst h
  exact ⟨rfl, rfl⟩
noncomputable def g28_2 (p : pl28_2) (s : sl28_2) : Bool := go28_2 p.1 p.2.1 p.2.2.1 s p.2.2.2.1 p.2.2.2.2.1 p.2.2.2.2.2.1 p.2.2.2.2.2.2.1 p.2.2.2.2.2.2.2
noncomputable def n28_2 (p : pl28_2) (s : sl28_2) : sl28_2 := nx28_2_3 p.1 p.2.1 p.2.2.1 s p.2.2.2.1 p.2.2.2.2.1 p.2.2.2.2.2.1 p.2.2.2.2.2.2.1 p.2.2.2.2.2.2.2
noncomputable def y28_2 (p : pl28_2) (s : sl28_2) : List (Bool × Out) := [(xc28_2_0 p.1 p.2.1 p.2.2.1 s p.2.2.2.1 p.2.2.2.2.1 p.2.2.2.2.2.1 p.2.2.2.2.2.2.1 p.2.2.2.2.2.2.2, (Ex.ret, [AV.int IntKind.i64 s], [Blk.var [AV.int IntKind.i64 p.2.2.2.1, AV.sl p.2.2.2.2.1 [Kd.int IntKind.i64] p.2.2.2.2.2.1, AV.sl p.2.2.2.2.2.2.1 [Kd.int IntKind.i64] p.2.2.2.2.2.2.2]]))]
noncomputable def z28_2 (p : pl28_2) (s : sl28_2) : Bool := xc28_2_1 p.1 p.2.1 p.2.2.1 s p.2.2.2.1 p.2.2.2.2.1 p.2.2.2.2.2.1 p.2.2.2.2.2.2.1 p.2.2.2.2.2.2.2
noncomputable def d28_2 (p : pl28_2) (s : sl28_2) : Out := (Ex.exit (nat_lit 0), [AV.junk], [Blk.var [AV.int IntKind.i64 p.2.2.2.1, AV.sl p.2.2.2.2.1 [Kd.int IntKind.i64] p.2.2.2.2.2.1, AV.sl p.2.2.2.2.2.2.1 [Kd.int IntKind.i64] p.2.2.2.2.2.2.2]])
noncomputable def ls28_2 : St → Option (Bool × List (Bool × Ex × St) × Ex × St) := lspOf [0, 1, 7, 8] [0] [4] [0] Try.f28.ntmps (1 + tab.nid 28) de28_2 (spI g28_2 n28_2 y28_2 z28_2 d28_2)
theorem lo28_2 (rest : Lsp) : LoopOK1 (cfg Try.prog tab 100000 (gk k19 30) (selL 2 ls28_2 rest) 28 1 Try.f28.ntmps) (loopAt Try.f28 2) := LoopOK1.iter (i := 2) (by kernel_rfl) [0, 1, 7, 8] [0] [4] [0] vt28_2 vc28_2 de28_2 g28_2 n28_2 y28_2 z28_2 d28_2 (fun _ => rfl) de28_2_ok (fun p s => rd28_2 (selL 2 ls28_2 rest) (p.1) (p.2.1) (p.2.2.1) s (p.2.2.2.1) (p.2.2.2.2.1) (p.2.2.2.2.2.1) (p.2.2.2.2.2.2.1) (p.2.2.2.2.2.2.2)) (fun _ _ => rfl)
noncomputable def lsp28 : Lsp := (selL 2 ls28_2 noLsp)
theorem loops28 : ∀ c, Try.f28.body = some c → LoopsOK (cfg Try.prog tab 100000 (gk k19 30) lsp28 28 1 Try.f28.ntmps) c := loops_of [2] (by kernel_rfl) (by kernel_rfl) (fun i hi => by
  simp only [List.mem_cons, List.not_mem_nil, or_false] at hi
  subst hi
  · exact lo28_2 noLsp)
noncomputable def rev28_0 (tk0 : Tk) (es0 : List (List AV)) (l : Int) (tk : Tk) (es : List (List AV)) (tk2 : Tk) (es2 : List (List AV)) : sl28_2 := finL (g28_2 (tk0, es0, (↑es0.length : Int), l, tk, es, tk2, es2)) (n28_2 (tk0, es0, (↑es0.length : Int), l, tk, es, tk2, es2)) (0 : Int)
noncomputable def vev28_0 (tk0 : Tk) (es0 : List (List AV)) (l : Int) (tk : Tk) (es : List (List AV)) (tk2 : Tk) (es2 : List (List AV)) : sl28_2 := bif xc28_2_0 tk0 es0 (↑es0.length : Int) (rev28_0 tk0 es0 l tk es tk2 es2) l tk es tk2 es2 then rev28_0 tk0 es0 l tk es tk2 es2 else (-1 : Int)
noncomputable def vev28_1 (tk0 : Tk) (es0 : List (List AV)) (l : Int) (tk : Tk) (es : List (List AV)) (tk2 : Tk) (es2 : List (List AV)) : Bool := bif (spI g28_2 n28_2 y28_2 z28_2 d28_2 ((tk0, es0, (↑es0.length : Int), l, tk, es, tk2, es2), (0 : Int))).fst then true else false
theorem ev28 (tk0 : Tk) (es0 : List (List AV)) (l : Int) (tk : Tk) (es : List (List AV)) (tk2 : Tk) (es2 : List (List AV)) : evFin (cfg Try.prog tab 100000 (gk k19 30) lsp28 28 ([.var [.int .i64 l, .sl tk [.int .i64] es, .sl tk2 [.int .i64] es2]] : List Blk).length Try.f28.ntmps) ([.var [.int .i64 l, .sl tk [.int .i64] es, .sl tk2 [.int .i64] es2]] : List Blk).length Try.f28.resultTypes.toList Try.f28 [.sl tk0 [.int .i64] es0, .fn 18 [.hp 0 0]] [.var [.int .i64 l, .sl tk [.int .i64] es, .sl tk2 [.int .i64] es2]] = bif vev28_1 tk0 es0 l tk es tk2 es2 then some (true, AV.int IntKind.i64 (vev28_0 tk0 es0 l tk es tk2 es2), [Blk.var [AV.int IntKind.i64 l, AV.sl tk [Kd.int IntKind.i64] es, AV.sl tk2 [Kd.int IntKind.i64] es2]]) else none := by
  have h : evFin (cfg Try.prog tab 100000 (gk k19 30) lsp28 28 ([.var [.int .i64 l, .sl tk [.int .i64] es, .sl tk2 [.int .i64] es2]] : List Blk).length Try.f28.ntmps) ([.var [.int .i64 l, .sl tk [.int .i64] es, .sl tk2 [.int .i64] es2]] : List Blk).length Try.f28.resultTypes.toList Try.f28 [.sl tk0 [.int .i64] es0, .fn 18 [.hp 0 0]] [.var [.int .i64 l, .sl tk [.int .i64] es, .sl tk2 [.int .i64] es2]] = bif (spI g28_2 n28_2 y28_2 z28_2 d28_2 ((tk0, es0, (↑es0.length : Int), l, tk, es, tk2, es2), (0 : Int))).fst then bif xc28_2_0 tk0 es0 (↑es0.length : Int) (rev28_0 tk0 es0 l tk es tk2 es2) l tk es tk2 es2 then some (true, AV.int IntKind.i64 (rev28_0 tk0 es0 l tk es tk2 es2), [Blk.var [AV.int IntKind.i64 l, AV.sl tk [Kd.int IntKind.i64] es, AV.sl tk2 [Kd.int IntKind.i64] es2]]) else some (true, AV.int IntKind.i64 (-1 : Int), [Blk.var [AV.int IntKind.i64 l, AV.sl tk [Kd.int IntKind.i64] es, AV.sl tk2 [Kd.int IntKind.i64] es2]]) else none := by kernel_rfl
  rw [h]
  clear h
  unfold vev28_0 vev28_1
  generalize ((spI g28_2 n28_2 y28_2 z28_2 d28_2 ((tk0, es0, (↑es0.length : Int), l, tk, es, tk2, es2), (0 : Int))).fst) = c0
  generalize (xc28_2_0 tk0 es0 (↑es0.length : Int) (rev28_0 tk0 es0 l tk es tk2 es2) l tk es tk2 es2) = c1
  cases c0
  · skip
    rfl
  · skip
    cases c1
    · skip
      rfl
    · skip
      rfl
-- spec vev28_1 tk0 es0 l tk es tk2 es2 ;; (true, AV.int IntKind.i64 (vev28_0 tk0 es0 l tk es tk2 es2), [Blk.var [AV.int IntKind.i64 l, AV.sl tk [Kd.int IntKind.i64] es, AV.sl tk2 [Kd.int IntKind.i64] es2]])
noncomputable def sp28 : List AV → List Blk → Option (Bool × AV × List Blk)
  | [.sl tk0 [.int .i64] es0, .fn 18 [.hp 0 0]], [.var [.int .i64 l, .sl tk [.int .i64] es, .sl tk2 [.int .i64] es2]] => spW (vev28_1 tk0 es0 l tk es tk2 es2) (some ((true, AV.int IntKind.i64 (vev28_0 tk0 es0 l tk es tk2 es2), [Blk.var [AV.int IntKind.i64 l, AV.sl tk [Kd.int IntKind.i64] es, AV.sl tk2 [Kd.int IntKind.i64] es2]])))
  | _, _ => none
noncomputable def k28 : Gam := fun f T C => match Nat.beq f 28 with
  | true => (sp28 T C).or (k19 f T C)
  | false => k19 f T C
theorem k28_ok : GamOK Try.prog k28 := by
  intro f T C r outs h
  unfold k28 at h
  cases hf : Nat.beq f 28 with
  | false => rw [hf] at h; exact k19_ok f T C r outs h
  | true =>
    have hf' := Nat.eq_of_beq_eq_true hf
    subst hf'
    rw [hf] at h
    dsimp only at h
    cases hs : sp28 T C with
    | none => rw [hs] at h; exact k19_ok _ T C r outs h
    | some x =>
      rw [hs] at h
      have hx : x = (true, r, outs) := by simpa using h
      subst hx
      unfold sp28 at hs
      split at hs
      · rename_i tk0 es0 l tk es tk2 es2
        obtain ⟨hb, rfl, rfl⟩ := spT_inv hs
        have he := ev28 tk0 es0 l tk es tk2 es2
        rw [hb, cond_true] at he
        obtain ⟨r0, o0, h0, he⟩ := evFin_inv he
        obtain ⟨h1, h2⟩ := fn_ok mixed plain (gk_ok k19_ok 30) Try.func28 loops28 h0
        exact ⟨h1, h2.fin he⟩
      · cases hs
noncomputable def rev20_0 (tk0 : Tk) (es0 : List (List AV)) (l : Int) (tk : Tk) (es : List (List AV)) (tk2 : Tk) (es2 : List (List AV)) : sl28_2 := vev28_0 tk0 es0 l tk es tk2 es2
noncomputable def vev20_0 (tk0 : Tk) (es0 : List (List AV)) (l : Int) (tk : Tk) (es : List (List AV)) (tk2 : Tk) (es2 : List (List AV)) : Bool := decide (rev20_0 tk0 es0 l tk es tk2 es2 ≥ (0 : Int))
noncomputable def vev20_1 (tk0 : Tk) (es0 : List (List AV)) (l : Int) (tk : Tk) (es : List (List AV)) (tk2 : Tk) (es2 : List (List AV)) : Bool := bif vev28_1 tk0 es0 l tk es tk2 es2 then true else false
theorem ev20 (tk0 : Tk) (es0 : List (List AV)) (l : Int) (tk : Tk) (es : List (List AV)) (tk2 : Tk) (es2 : List (List AV)) : evFin (cfg Try.prog tab 100000 (gk k28 30) noLsp 20 ([.var [.int .i64 l, .sl tk [.int .i64] es, .sl tk2 [.int .i64] es2]] : List Blk).length Try.f20.ntmps) ([.var [.int .i64 l, .sl tk [.int .i64] es, .sl tk2 [.int .i64] es2]] : List Blk).length Try.f20.resultTypes.toList Try.f20 [.sl tk0 [.int .i64] es0, .fn 18 [.hp 0 0]] [.var [.int .i64 l, .sl tk [.int .i64] es, .sl tk2 [.int .i64] es2]] = bif vev20_1 tk0 es0 l tk es tk2 es2 then some (true, AV.bool (vev20_0 tk0 es0 l tk es tk2 es2), [Blk.var [AV.int IntKind.i64 l, AV.sl tk [Kd.int IntKind.i64] es, AV.sl tk2 [Kd.int IntKind.i64] es2]]) else none := by
  have h : evFin (cfg Try.prog tab 100000 (gk k28 30) noLsp 20 ([.var [.int .i64 l, .sl tk [.int .i64] es, .sl tk2 [.int .i64] es2]] : List Blk).length Try.f20.ntmps) ([.var [.int .i64 l, .sl tk [.int .i64] es, .sl tk2 [.int .i64] es2]] : List Blk).length Try.f20.resultTypes.toList Try.f20 [.sl tk0 [.int .i64] es0, .fn 18 [.hp 0 0]] [.var [.int .i64 l, .sl tk [.int .i64] es, .sl tk2 [.int .i64] es2]] = bif vev28_1 tk0 es0 l tk es tk2 es2 then some (true, AV.bool (decide (rev20_0 tk0 es0 l tk es tk2 es2 ≥ (0 : Int))), [Blk.var [AV.int IntKind.i64 l, AV.sl tk [Kd.int IntKind.i64] es, AV.sl tk2 [Kd.int IntKind.i64] es2]]) else none := by kernel_rfl
  rw [h]
  clear h
  unfold vev20_0 vev20_1
  generalize (vev28_1 tk0 es0 l tk es tk2 es2) = c0
  cases c0
  · skip
    rfl
  · skip
    rfl
-- spec vev20_1 tk0 es0 l tk es tk2 es2 ;; (true, AV.bool (vev20_0 tk0 es0 l tk es tk2 es2), [Blk.var [AV.int IntKind.i64 l, AV.sl tk [Kd.int IntKind.i64] es, AV.sl tk2 [Kd.int IntKind.i64] es2]])
noncomputable def sp20 : List AV → List Blk → Option (Bool × AV × List Blk)
  | [.sl tk0 [.int .i64] es0, .fn 18 [.hp 0 0]], [.var [.int .i64 l, .sl tk [.int .i64] es, .sl tk2 [.int .i64] es2]] => spW (vev20_1 tk0 es0 l tk es tk2 es2) (some ((true, AV.bool (vev20_0 tk0 es0 l tk es tk2 es2), [Blk.var [AV.int IntKind.i64 l, AV.sl tk [Kd.int IntKind.i64] es, AV.sl tk2 [Kd.int IntKind.i64] es2]])))
  | _, _ => none
noncomputable def k20 : Gam := fun f T C => match Nat.beq f 20 with
  | true => (sp20 T C).or (k28 f T C)
  | false => k28 f T C
theorem k20_ok : GamOK Try.prog k20 := by
  intro f T C r outs h
  unfold k20 at h
  cases hf : Nat.beq f 20 with
  | false => rw [hf] at h; exact k28_ok f T C r outs h
  | true =>
    have hf' := Nat.eq_of_beq_eq_true hf
    subst hf'
    rw [hf] at h
    dsimp only at h
    cases hs : sp20 T C with
    | none => rw [hs] at h; exact k28_ok _ T C r outs h
    | some x =>
      rw [hs] at h
      have hx : x = (true, r, outs) := by simpa using h
      subst hx
      unfold sp20 at hs
      split at hs
      · rename_i tk0 es0 l tk es tk2 es2
        obtain ⟨hb, rfl, rfl⟩ := spT_inv hs
        have he := ev20 tk0 es0 l tk es tk2 es2
        rw [hb, cond_true] at he
        obtain ⟨r0, o0, h0, he⟩ := evFin_inv he
        obtain ⟨h1, h2⟩ := fn_ok mixed plain (gk_ok k28_ok 30) Try.func20 (fun c _ => LoopsOK.none (fun _ _ => rfl) c) h0
        exact ⟨h1, h2.fin he⟩
      · cases hs
noncomputable def go26_2 (t0k : Tk) (t0 : List (List AV)) (t1 : Int) (t7 : Int) (t8 : Int) : Bool := bif decide (t8 < t7) then bif decide ((0 : Int) ≤ t8) && decide (t8 < (↑t0.length : Int)) then bif t1 == intOf ((t0.getD t8.toNat []).getD (0 : Nat) AV.junk) then false else true else false else false
noncomputable def nx26_2_4 (t0k : Tk) (t0 : List (List AV)) (t1 : Int) (t7 : Int) (t8 : Int) : Int := IntKind.i64.wrap (t8 + (1 : Int))
noncomputable def xc26_2_0 (t0k : Tk) (t0 : List (List AV)) (t1 : Int) (t7 : Int) (t8 : Int) : Bool := bif decide (t8 < t7) then bif decide ((0 : Int) ≤ t8) && decide (t8 < (↑t0.length : Int)) then t1 == intOf ((t0.getD t8.toNat []).getD (0 : Nat) AV.junk) else false else false
noncomputable def xc26_2_1 (t0k : Tk) (t0 : List (List AV)) (t1 : Int) (t7 : Int) (t8 : Int) : Bool := bif decide (t8 < t7) then false else true
theorem rd26_2 (rest : Lsp) (t0k : Tk) (t0 : List (List AV)) (t1 : Int) (t7 : Int) (t8 : Int) : roundV (cfg Try.prog tab 100000 (gk k20 30) rest 26 0 Try.f26.ntmps) (loopAt Try.f26 2) [0, 1, 7, 8] [] [4] [] [AV.sl t0k [Kd.int IntKind.i64] t0, AV.int IntKind.i64 t1, AV.int IntKind.i64 t7, AV.int IntKind.i64 t8] [] = bif go26_2 t0k t0 t1 t7 t8 then some (Ex.norm, [AV.sl t0k [Kd.int IntKind.i64] t0, AV.int IntKind.i64 t1, AV.int IntKind.i64 t7, AV.int IntKind.i64 (nx26_2_4 t0k t0 t1 t7 t8)], []) else bif xc26_2_0 t0k t0 t1 t7 t8 then some (Ex.ret, [AV.int IntKind.i64 t8], []) else bif xc26_2_1 t0k t0 t1 t7 t8 then some (Ex.exit (nat_lit 0), [AV.junk], []) else none := by
  have h : roundV (cfg Try.prog tab 100000 (gk k20 30) rest 26 0 Try.f26.ntmps) (loopAt Try.f26 2) [0, 1, 7, 8] [] [4] [] [AV.sl t0k [Kd.int IntKind.i64] t0, AV.int IntKind.i64 t1, AV.int IntKind.i64 t7, AV.int IntKind.i64 t8] [] = bif decide (t8 < t7) then bif decide ((0 : Int) ≤ t8) && decide (t8 < (↑t0.length : Int)) then bif t1 == intOf ((t0.getD t8.toNat []).getD (0 : Nat) AV.junk) then some (Ex.ret, [AV.int IntKind.i64 t8], []) else some (Ex.norm, [AV.sl t0k [Kd.int IntKind.i64] t0, AV.int IntKind.i64 t1, AV.int IntKind.i64 t7, AV.int IntKind.i64 (IntKind.i64.wrap (t8 + (1 : Int)))], []) else none else some (Ex.exit (nat_lit 0), [AV.junk], []) := by kernel_rfl
  rw [h]
  clear h
  unfold go26_2 nx26_2_4 xc26_2_0 xc26_2_1
  generalize (decide ((0 : Int) ≤ t8) && decide (t8 < (↑t0.length : Int))) = c0
  generalize (t1 == intOf ((t0.getD t8.toNat []).getD (0 : Nat) AV.junk)) = c1
  generalize (decide (t8 < t7)) = c2
  cases c2
  · skip
    rfl
  · skip
    cases c0
    · skip
      rfl
    · skip
      cases c1
      · skip
        rfl
      · skip
        rfl
abbrev pl26_2 : Type := Tk × (List (List AV)) × Int × Int
abbrev sl26_2 : Type := Int
noncomputable def vt26_2 (a : pl26_2 × sl26_2) : List AV := [AV.sl a.1.1 [Kd.int IntKind.i64] a.1.2.1, AV.int IntKind.i64 a.1.2.2.1, AV.int IntKind.i64 a.1.2.2.2, AV.int IntKind.i64 a.2]
noncomputable def vc26_2 (a : pl26_2 × sl26_2) : List Blk := []
noncomputable def de26_2 (vt : List AV) (vc : List Blk) : Option (pl26_2 × sl26_2) :=
  match vt with
  | [qa0, qa1, qa2, qa3] => (match vc with
  | [] => (match qa0 with
  | AV.sl t0k [Kd.int IntKind.i64] t0 => (match qa1 with
  | AV.int IntKind.i64 t1 => (match qa2 with
  | AV.int IntKind.i64 t7 => (match qa3 with
  | AV.int IntKind.i64 t8 => (some ((t0k, t0, t1, t7), t8))
  | _ => none)
  | _ => none)
  | _ => none)
  | _ => none)
  | _ => none)
  | _ => none
theorem de26_2_ok (vt : List AV) (vc : List Blk) (a : pl26_2 × sl26_2) (h : de26_2 vt vc = some a) : vt = vt26_2 a ∧ vc = vc26_2 a := by
  unfold de26_2 at h
  split at h
  rotate_left
  · cases h
  split at h
  rotate_left
  · cases h
  split at h
  rotate_left
  · cases h
  split at h
  rotate_left
  · cases h
  split at h
  rotate_left
  · cases h
  split at h
  rotate_left
  · cases h
  injection h with h
  subst h
  exact ⟨rfl, rfl⟩
noncomputable def g26_2 (p : pl26_2) (s : sl26_2) : Bool := go26_2 p.1 p.2.1 p.2.2.1 p.2.2.2 s
noncomputable def n26_2 (p : pl26_2) (s : sl26_2) : sl26_2 := nx26_2_4 p.1 p.2.1 p.2.2.1 p.2.2.2 s
noncomputable def y26_2 (p : pl26_2) (s : sl26_2) : List (Bool × Out) := [(xc26_2_0 p.1 p.2.1 p.2.2.1 p.2.2.2 s, (Ex.ret, [AV.int IntKind.i64 s], []))]
noncomputable def z26_2 (p : pl26_2) (s : sl26_2) : Bool := xc26_2_1 p.1 p.2.1 p.2.2.1 p.2.2.2 s
noncomputable def d26_2 (p : pl26_2) (s : sl26_2) : Out := (Ex.exit (nat_lit 0), [AV.junk], [])
noncomputable def ls26_2 : St → Option (Bool × List (Bool × Ex × St) × Ex × St) := lspOf [0, 1, 7, 8] [] [4] [] Try.f26.ntmps (0 + tab.nid 26) de26_2 (spI g26_2 n26_2 y26_2 z26_2 d26_2)
theorem lo26_2 (rest : Lsp) : LoopOK1 (cfg Try.prog tab 100000 (gk k20 30) (selL 2 ls26_2 rest) 26 0 Try.f26.ntmps) (loopAt Try.f26 2) := LoopOK1.iter (i := 2) (by kernel_rfl) [0, 1, 7, 8] [] [4] [] vt26_2 vc26_2 de26_2 g26_2 n26_2 y26_2 z26_2 d26_2 (fun _ => rfl) de26_2_ok (fun p s => rd26_2 (selL 2 ls26_2 rest) (p.1) (p.2.1) (p.2.2.1) (p.2.2.2) s) (fun _ _ => rfl)
noncomputable def lsp26 : Lsp := (selL 2 ls26_2 noLsp)
theorem loops26 : ∀ c, Try.f26.body = some c → LoopsOK (cfg Try.prog tab 100000 (gk k20 30) lsp26 26 0 Try.f26.ntmps) c := loops_of [2] (by kernel_rfl) (by kernel_rfl) (fun i hi => by
  simp only [List.mem_cons, List.not_mem_nil, or_false] at hi
  subst hi
  · exact lo26_2 noLsp)
noncomputable def rev26_0 (tk : Tk) (es : List (List AV)) (n : Int) : sl26_2 := finL (g26_2 (tk, es, n, (↑es.length : Int))) (n26_2 (tk, es, n, (↑es.length : Int))) (0 : Int)
noncomputable def vev26_0 (tk : Tk) (es : List (List AV)) (n : Int) : sl26_2 := bif xc26_2_0 tk es n (↑es.length : Int) (rev26_0 tk es n) then rev26_0 tk es n else (-1 : Int)
noncomputable def vev26_1 (tk : Tk) (es : List (List AV)) (n : Int) : Bool := bif (spI g26_2 n26_2 y26_2 z26_2 d26_2 ((tk, es, n, (↑es.length : Int)), (0 : Int))).fst then true else false
theorem ev26 (tk : Tk) (es : List (List AV)) (n : Int) : evFin (cfg Try.prog tab 100000 (gk k20 30) lsp26 26 ([] : List Blk).length Try.f26.ntmps) ([] : List Blk).length Try.f26.resultTypes.toList Try.f26 [.sl tk [.int .i64] es, .int .i64 n] [] = bif vev26_1 tk es n then some (true, AV.int IntKind.i64 (vev26_0 tk es n), []) else none := by
  have h : evFin (cfg Try.prog tab 100000 (gk k20 30) lsp26 26 ([] : List Blk).length Try.f26.ntmps) ([] : List Blk).length Try.f26.resultTypes.toList Try.f26 [.sl tk [.int .i64] es, .int .i64 n] [] = bif (spI g26_2 n26_2 y26_2 z26_2 d26_2 ((tk, es, n, (↑es.length : Int)), (0 : Int))).fst then bif xc26_2_0 tk es n (↑es.length : Int) (rev26_0 tk es n) then some (true, AV.int IntKind.i64 (rev26_0 tk es n), []) else some (true, AV.int IntKind.i64 (-1 : Int), []) else none := by kernel_rfl
  rw [h]
  clear h
  unfold vev26_0 vev26_1
  generalize ((spI g26_2 n26_2 y26_2 z26_2 d26_2 ((tk, es, n, (↑es.length : Int)), (0 : Int))).fst) = c0
  generalize (xc26_2_0 tk es n (↑es.length : Int) (rev26_0 tk es n)) = c1
  cases c0
  · skip
    rfl
  · skip
    cases c1
    · skip
      rfl
    · skip
      rfl
-- spec vev26_1 tk es n ;; (true, AV.int IntKind.i64 (vev26_0 tk es n), [])
noncomputable def sp26 : List AV → List Blk → Option (Bool × AV × List Blk)
  | [.sl tk [.int .i64] es, .int .i64 n], [] => spW (vev26_1 tk es n) (some ((true, AV.int IntKind.i64 (vev26_0 tk es n), [])))
  | _, _ => none
noncomputable def k26 : Gam := fun f T C => match Nat.beq f 26 with
  | true => (sp26 T C).or (k20 f T C)
  | false => k20 f T C
theorem k26_ok : GamOK Try.prog k26 := by
  intro f T C r outs h
  unfold k26 at h
  cases hf : Nat.beq f 26 with
  | false => rw [hf] at h; exact k20_ok f T C r outs h
  | true =>
    have hf' := Nat.eq_of_beq_eq_true hf
    subst hf'
    rw [hf] at h
    dsimp only at h
    cases hs : sp26 T C with
    | none => rw [hs] at h; exact k20_ok _ T C r outs h
    | some x =>
      rw [hs] at h
      have hx : x = (true, r, outs) := by simpa using h
      subst hx
      unfold sp26 at hs
      split at hs
      · rename_i tk es n
        obtain ⟨hb, rfl, rfl⟩ := spT_inv hs
        have he := ev26 tk es n
        rw [hb, cond_true] at he
        obtain ⟨r0, o0, h0, he⟩ := evFin_inv he
        obtain ⟨h1, h2⟩ := fn_ok mixed plain (gk_ok k20_ok 30) Try.func26 loops26 h0
        exact ⟨h1, h2.fin he⟩
      · cases hs
noncomputable def vev29_0 (tk : Tk) (es : List (List AV)) (n : Int) : Bool := decide (vev26_0 tk es n ≥ (0 : Int))
noncomputable def vev29_1 (tk : Tk) (es : List (List AV)) (n : Int) : Bool := bif vev26_1 tk es n then true else false
theorem ev29 (tk : Tk) (es : List (List AV)) (n : Int) : evFin (cfg Try.prog tab 100000 (gk k26 30) noLsp 29 ([] : List Blk).length Try.f29.ntmps) ([] : List Blk).length Try.f29.resultTypes.toList Try.f29 [.sl tk [.int .i64] es, .int .i64 n] [] = bif vev29_1 tk es n then some (true, AV.bool (vev29_0 tk es n), []) else none := by
  have h : evFin (cfg Try.prog tab 100000 (gk k26 30) noLsp 29 ([] : List Blk).length Try.f29.ntmps) ([] : List Blk).length Try.f29.resultTypes.toList Try.f29 [.sl tk [.int .i64] es, .int .i64 n] [] = bif vev26_1 tk es n then some (true, AV.bool (decide (vev26_0 tk es n ≥ (0 : Int))), []) else none := by kernel_rfl
  rw [h]
  clear h
  unfold vev29_0 vev29_1
  generalize (vev26_1 tk es n) = c0
  cases c0
  · skip
    rfl
  · skip
    rfl
-- spec vev29_1 tk es n ;; (true, AV.bool (vev29_0 tk es n), [])
noncomputable def sp29 : List AV → List Blk → Option (Bool × AV × List Blk)
  | [.sl tk [.int .i64] es, .int .i64 n], [] => spW (vev29_1 tk es n) (some ((true, AV.bool (vev29_0 tk es n), [])))
  | _, _ => none
noncomputable def k29 : Gam := fun f T C => match Nat.beq f 29 with
  | true => (sp29 T C).or (k26 f T C)
  | false => k26 f T C
theorem k29_ok : GamOK Try.prog k29 := by
  intro f T C r outs h
  unfold k29 at h
  cases hf : Nat.beq f 29 with
  | false => rw [hf] at h; exact k26_ok f T C r outs h
  | true =>
    have hf' := Nat.eq_of_beq_eq_true hf
    subst hf'
    rw [hf] at h
    dsimp only at h
    cases hs : sp29 T C with
    | none => rw [hs] at h; exact k26_ok _ T C r outs h
    | some x =>
      rw [hs] at h
      have hx : x = (true, r, outs) := by simpa using h
      subst hx
      unfold sp29 at hs
      split at hs
      · rename_i tk es n
        obtain ⟨hb, rfl, rfl⟩ := spT_inv hs
        have he := ev29 tk es n
        rw [hb, cond_true] at he
        obtain ⟨r0, o0, h0, he⟩ := evFin_inv he
        obtain ⟨h1, h2⟩ := fn_ok mixed plain (gk_ok k26_ok 30) Try.func29 (fun c _ => LoopsOK.none (fun _ _ => rfl) c) h0
        exact ⟨h1, h2.fin he⟩
      · cases hs
noncomputable def rn21_2_0 (t6k : Tk) (t6 : List (List AV)) (t7 : Int) (t8 : Int) (b0_0 : Int) (b0_1k : Tk) (b0_1 : List (List AV)) (b0_2k : Tk) (b0_2 : List (List AV)) : Int := intOf ((t6.getD t8.toNat []).getD (0 : Nat) AV.junk)
noncomputable def go21_2 (t6k : Tk) (t6 : List (List AV)) (t7 : Int) (t8 : Int) (b0_0 : Int) (b0_1k : Tk) (b0_1 : List (List AV)) (b0_2k : Tk) (b0_2 : List (List AV)) : Bool := bif decide (t8 < t7) then bif decide ((0 : Int) ≤ t8) && decide (t8 < (↑t6.length : Int)) then bif bif vev29_1 b0_1k b0_1 (rn21_2_0 t6k t6 t7 t8 b0_0 b0_1k b0_1 b0_2k b0_2) then bif vev29_0 b0_1k b0_1 (rn21_2_0 t6k t6 t7 t8 b0_0 b0_1k b0_1 b0_2k b0_2) then true else bif bnd (0 : Int) t8 (↑b0_2.length : Int) then vev29_1 b0_2k (List.take t8.toNat b0_2) (rn21_2_0 t6k t6 t7 t8 b0_0 b0_1k b0_1 b0_2k b0_2) else false else false then bif bif vev29_1 b0_1k b0_1 (rn21_2_0 t6k t6 t7 t8 b0_0 b0_1k b0_1 b0_2k b0_2) then bif vev29_0 b0_1k b0_1 (rn21_2_0 t6k t6 t7 t8 b0_0 b0_1k b0_1 b0_2k b0_2) then true else bif bnd (0 : Int) t8 (↑b0_2.length : Int) then bif vev29_1 b0_2k (List.take t8.toNat b0_2) (rn21_2_0 t6k t6 t7 t8 b0_0 b0_1k b0_1 b0_2k b0_2) then vev29_0 b0_2k (List.take t8.toNat b0_2) (rn21_2_0 t6k t6 t7 t8 b0_0 b0_1k b0_1 b0_2k b0_2) else false else false else false then false else true else false else false else false
noncomputable def nx21_2_3 (t6k : Tk) (t6 : List (List AV)) (t7 : Int) (t8 : Int) (b0_0 : Int) (b0_1k : Tk) (b0_1 : List (List AV)) (b0_2k : Tk) (b0_2 : List (List AV)) : Int := IntKind.i64.wrap (t8 + (1 : Int))
noncomputable def xc21_2_0 (t6k : Tk) (t6 : List (List AV)) (t7 : Int) (t8 : Int) (b0_0 : Int) (b0_1k : Tk) (b0_1 : List (List AV)) (b0_2k : Tk) (b0_2 : List (List AV)) : Bool := bif decide (t8 < t7) then bif decide ((0 : Int) ≤ t8) && decide (t8 < (↑t6.length : Int)) then bif bif vev29_1 b0_1k b0_1 (rn21_2_0 t6k t6 t7 t8 b0_0 b0_1k b0_1 b0_2k b0_2) then bif vev29_0 b0_1k b0_1 (rn21_2_0 t6k t6 t7 t8 b0_0 b0_1k b0_1 b0_2k b0_2) then true else bif bnd (0 : Int) t8 (↑b0_2.length : Int) then vev29_1 b0_2k (List.take t8.toNat b0_2) (rn21_2_0 t6k t6 t7 t8 b0_0 b0_1k b0_1 b0_2k b0_2) else false else false then bif vev29_1 b0_1k b0_1 (rn21_2_0 t6k t6 t7 t8 b0_0 b0_1k b0_1 b0_2k b0_2) then bif vev29_0 b0_1k b0_1 (rn21_2_0 t6k t6 t7 t8 b0_0 b0_1k b0_1 b0_2k b0_2) then true else bif bnd (0 : Int) t8 (↑b0_2.length : Int) then bif vev29_1 b0_2k (List.take t8.toNat b0_2) (rn21_2_0 t6k t6 t7 t8 b0_0 b0_1k b0_1 b0_2k b0_2) then vev29_0 b0_2k (List.take t8.toNat b0_2) (rn21_2_0 t6k t6 t7 t8 b0_0 b0_1k b0_1 b0_2k b0_2) else false else false else false else false else false else false
noncomputable def xc21_2_1 (t6k : Tk) (t6 : List (List AV)) (t7 : Int) (t8 : Int) (b0_0 : Int) (b0_1k : Tk) (b0_1 : List (List AV)) (b0_2k : Tk) (b0_2 : List (List AV)) : Bool := bif decide (t8 < t7) then false else true
theorem rd21_2 (rest : Lsp) (t6k : Tk) (t6 : List (List AV)) (t7 : Int) (t8 : Int) (b0_0 : Int) (b0_1k : Tk) (b0_1 : List (List AV)) (b0_2k : Tk) (b0_2 : List (List AV)) : roundV (cfg Try.prog tab 100000 (gk k29 30) rest 21 0 Try.f21.ntmps) (loopAt Try.f21 2) [1, 6, 7, 8] [0] [2] [] [AV.hp (nat_lit 0) (nat_lit 0), AV.sl t6k [Kd.int IntKind.i64] t6, AV.int IntKind.i64 t7, AV.int IntKind.i64 t8] [Blk.var [AV.int IntKind.i64 b0_0, AV.sl b0_1k [Kd.int IntKind.i64] b0_1, AV.sl b0_2k [Kd.int IntKind.i64] b0_2]] = bif go21_2 t6k t6 t7 t8 b0_0 b0_1k b0_1 b0_2k b0_2 then some (Ex.norm, [AV.hp (nat_lit 0) (nat_lit 0), AV.sl t6k [Kd.int IntKind.i64] t6, AV.int IntKind.i64 t7, AV.int IntKind.i64 (nx21_2_3 t6k t6 t7 t8 b0_0 b0_1k b0_1 b0_2k b0_2)], [Blk.var [AV.int IntKind.i64 b0_0, AV.sl b0_1k [Kd.int IntKind.i64] b0_1, AV.sl b0_2k [Kd.int IntKind.i64] b0_2]]) else bif xc21_2_0 t6k t6 t7 t8 b0_0 b0_1k b0_1 b0_2k b0_2 then some (Ex.ret, [AV.bool true], []) else bif xc21_2_1 t6k t6 t7 t8 b0_0 b0_1k b0_1 b0_2k b0_2 then some (Ex.exit (nat_lit 0), [AV.junk], []) else none := by
  have h : roundV (cfg Try.prog tab 100000 (gk k29 30) rest 21 0 Try.f21.ntmps) (loopAt Try.f21 2) [1, 6, 7, 8] [0] [2] [] [AV.hp (nat_lit 0) (nat_lit 0), AV.sl t6k [Kd.int IntKind.i64] t6, AV.int IntKind.i64 t7, AV.int IntKind.i64 t8] [Blk.var [AV.int IntKind.i64 b0_0, AV.sl b0_1k [Kd.int IntKind.i64] b0_1, AV.sl b0_2k [Kd.int IntKind.i64] b0_2]] = bif decide (t8 < t7) then bif decide ((0 : Int) ≤ t8) && decide (t8 < (↑t6.length : Int)) then bif bif vev29_1 b0_1k b0_1 (rn21_2_0 t6k t6 t7 t8 b0_0 b0_1k b0_1 b0_2k b0_2) then bif vev29_0 b0_1k b0_1 (rn21_2_0 t6k t6 t7 t8 b0_0 b0_1k b0_1 b0_2k b0_2) then true else bif bnd (0 : Int) t8 (↑b0_2.length : Int) then bif vev29_1 b0_2k (List.take t8.toNat b0_2) (rn21_2_0 t6k t6 t7 t8 b0_0 b0_1k b0_1 b0_2k b0_2) then true else false else false else false then bif bif vev29_1 b0_1k b0_1 (rn21_2_0 t6k t6 t7 t8 b0_0 b0_1k b0_1 b0_2k b0_2) then bif vev29_0 b0_1k b0_1 (rn21_2_0 t6k t6 t7 t8 b0_0 b0_1k b0_1 b0_2k b0_2) then true else bif bnd (0 : Int) t8 (↑b0_2.length : Int) then bif vev29_1 b0_2k (List.take t8.toNat b0_2) (rn21_2_0 t6k t6 t7 t8 b0_0 b0_1k b0_1 b0_2k b0_2) then bif false then true else vev29_0 b0_2k (List.take t8.toNat b0_2) (rn21_2_0 t6k t6 t7 t8 b0_0 b0_1k b0_1 b0_2k b0_2) else false else false else false then some (Ex.ret, [AV.bool true], []) else some (Ex.norm, [AV.hp (nat_lit 0) (nat_lit 0), AV.sl t6k [Kd.int IntKind.i64] t6, AV.int IntKind.i64 t7, AV.int IntKind.i64 (IntKind.i64.wrap (t8 + (1 : Int)))], [Blk.var [AV.int IntKind.i64 b0_0, AV.sl b0_1k [Kd.int IntKind.i64] b0_1, AV.sl b0_2k [Kd.int IntKind.i64] b0_2]]) else none else none else some (Ex.exit (nat_lit 0), [AV.junk], []) := by kernel_rfl
  rw [h]
  clear h
  unfold go21_2 nx21_2_3 xc21_2_0 xc21_2_1
  generalize (decide ((0 : Int) ≤ t8) && decide (t8 < (↑t6.length : Int))) = c0
  generalize (vev29_0 b0_2k (List.take t8.toNat b0_2) (rn21_2_0 t6k t6 t7 t8 b0_0 b0_1k b0_1 b0_2k b0_2)) = c1
  generalize (vev29_1 b0_2k (List.take t8.toNat b0_2) (rn21_2_0 t6k t6 t7 t8 b0_0 b0_1k b0_1 b0_2k b0_2)) = c2
  generalize (bnd (0 : Int) t8 (↑b0_2.length : Int)) = c3
  generalize (vev29_0 b0_1k b0_1 (rn21_2_0 t6k t6 t7 t8 b0_0 b0_1k b0_1 b0_2k b0_2)) = c4
  generalize (vev29_1 b0_1k b0_1 (rn21_2_0 t6k t6 t7 t8 b0_0 b0_1k b0_1 b0_2k b0_2)) = c5
  generalize (decide (t8 < t7)) = c6
  cases c6
  · skip
    rfl
  · skip
    cases c0
    · skip
      rfl
    · skip
      cases c5
      · skip
        rfl
      · skip
        cases c4
        · skip
          cases c3
          · skip
            rfl
          · skip
            cases c2
            · skip
              rfl
            · skip
              cases c1
              · skip
                rfl
              · skip
                rfl
        · skip
          rfl
abbrev pl21_2 : Type := Tk × (List (List AV)) × Int × Int × Tk × (List (List AV)) × Tk × (List (List AV))
abbrev sl21_2 : Type := Int
noncomputable def vt21_2 (a : pl21_2 × sl21_2) : List AV := [AV.hp (nat_lit 0) (nat_lit 0), AV.sl a.1.1 [Kd.int IntKind.i64] a.1.2.1, AV.int IntKind.i64 a.1.2.2.1, AV.int IntKind.i64 a.2]
noncomputable def vc21_2 (a : pl21_2 × sl21_2) : List Blk := [Blk.var [AV.int IntKind.i64 a.1.2.2.2.1, AV.sl a.1.2.2.2.2.1 [Kd.int IntKind.i64] a.1.2.2.2.2.2.1, AV.sl a.1.2.2.2.2.2.2.1 [Kd.int IntKind.i64] a.1.2.2.2.2.2.2.2]]
noncomputable def de21_2 (vt : List AV) (vc : List Blk) : Option (pl21_2 × sl21_2) :=
  match vt with
  | [qa0, qa1, qa2, qa3] => (match vc with
  | [qb0] => (match qa0 with
  | AV.hp (0) (0) => (match qa1 with
  | AV.sl t6k [Kd.int IntKind.i64] t6 => (match qa2 with
  | AV.int IntKind.i64 t7 => (match qa3 with
  | AV.int IntKind.i64 t8 => (match qb0 with
  | Blk.var [AV.int IntKind.i64 b0_0, AV.sl b0_1k [Kd.int IntKind.i64] b0_1, AV.sl b0_2k [Kd.int IntKind.i64] b0_2] => (some ((t6k, t6, t7, b0_0, b0_1k, b0_1, b0_2k, b0_2), t8))
  | _ => none)
  | _ => none)
  | _ => none)
  | _ => none)
  | _ => none)
  | _ => none)
  | _ => none
theorem de21_2_ok (vt : List AV) (vc : List Blk) (a : pl21_2 × sl21_2) (h : de21_2 vt vc = some a) : vt = vt21_2 a ∧ vc = vc21_2 a := by
  unfold de21_2 at h
  split at h
  rotate_left
  · cases h
  split at h
  rotate_left
  · cases h
  split at h
  rotate_left
  · cases h
  split at h
  rotate_left
  · cases h
  split at h
  rotate_left
  · cases h
  split at h
  rotate_left
  · cases h
  split at h
  rotate_left
  · cases h
  injection h with h
  subst h
  exact ⟨rfl, rfl⟩
noncomputable def g21_2 (p : pl21_2) (s : sl21_2) : Bool := go21_2 p.1 p.2.1 p.2.2.1 s p.2.2.2.1 p.2.2.2.2.1 p.2.2.2.2.2.1 p.2.2.2.2.2.2.1 p.2.2.2.2.2.2.2
noncomputable def n21_2 (p : pl21_2) (s : sl21_2) : sl21_2 := nx21_2_3 p.1 p.2.1 p.2.2.1 s p.2.2.2.1 p.2.2.2.2.1 p.2.2.2.2.2.1 p.2.2.2.2.2.2.1 p.2.2.2.2.2.2.2
noncomputable def y21_2 (p : pl21_2) (s : sl21_2) : List (Bool × Out) := [(xc21_2_0 p.1 p.2.1 p.2.2.1 s p.2.2.2.1 p.2.2.2.2.1 p.2.2.2.2.2.1 p.2.2.2.2.2.2.1 p.2.2.2.2.2.2.2, (Ex.ret, [AV.bool true], []))]
noncomputable def z21_2 (p : pl21_2) (s : sl21_2) : Bool := xc21_2_1 p.1 p.2.1 p.2.2.1 s p.2.2.2.1 p.2.2.2.2.1 p.2.2.2.2.2.1 p.2.2.2.2.2.2.1 p.2.2.2.2.2.2.2
noncomputable def d21_2 (p : pl21_2) (s : sl21_2) : Out := (Ex.exit (nat_lit 0), [AV.junk], [])
noncomputable def ls21_2 : St → Option (Bool × List (Bool × Ex × St) × Ex × St) := lspOf [1, 6, 7, 8] [0] [2] [] Try.f21.ntmps (0 + tab.nid 21) de21_2 (spI g21_2 n21_2 y21_2 z21_2 d21_2)
theorem lo21_2 (rest : Lsp) : LoopOK1 (cfg Try.prog tab 100000 (gk k29 30) (selL 2 ls21_2 rest) 21 0 Try.f21.ntmps) (loopAt Try.f21 2) := LoopOK1.iter (i := 2) (by kernel_rfl) [1, 6, 7, 8] [0] [2] [] vt21_2 vc21_2 de21_2 g21_2 n21_2 y21_2 z21_2 d21_2 (fun _ => rfl) de21_2_ok (fun p s => rd21_2 (selL 2 ls21_2 rest) (p.1) (p.2.1) (p.2.2.1) s (p.2.2.2.1) (p.2.2.2.2.1) (p.2.2.2.2.2.1) (p.2.2.2.2.2.2.1) (p.2.2.2.2.2.2.2)) (fun _ _ => rfl)
noncomputable def lsp21 : Lsp := (selL 2 ls21_2 noLsp)
theorem loops21 : ∀ c, Try.f21.body = some c → LoopsOK (cfg Try.prog tab 100000 (gk k29 30) lsp21 21 0 Try.f21.ntmps) c := loops_of [2] (by kernel_rfl) (by kernel_rfl) (fun i hi => by
  simp only [List.mem_cons, List.not_mem_nil, or_false] at hi
  subst hi
  · exact lo21_2 noLsp)
noncomputable def rev21_0 (l : Int) (tk : Tk) (es : List (List AV)) (tk2 : Tk) (es2 : List (List AV)) : sl21_2 := finL (g21_2 (tk2, es2, (↑es2.length : Int), l, tk, es, tk2, es2)) (n21_2 (tk2, es2, (↑es2.length : Int), l, tk, es, tk2, es2)) (0 : Int)
noncomputable def vev21_0 (l : Int) (tk : Tk) (es : List (List AV)) (tk2 : Tk) (es2 : List (List AV)) : Bool := bif xc21_2_0 tk2 es2 (↑es2.length : Int) (rev21_0 l tk es tk2 es2) l tk es tk2 es2 then true else false
noncomputable def vev21_1 (l : Int) (tk : Tk) (es : List (List AV)) (tk2 : Tk) (es2 : List (List AV)) : Bool := bif (spI g21_2 n21_2 y21_2 z21_2 d21_2 ((tk2, es2, (↑es2.length : Int), l, tk, es, tk2, es2), (0 : Int))).fst then true else false
theorem ev21 (l : Int) (tk : Tk) (es : List (List AV)) (tk2 : Tk) (es2 : List (List AV)) : evFin (cfg Try.prog tab 100000 (gk k29 30) lsp21 21 ([] : List Blk).length Try.f21.ntmps) ([] : List Blk).length Try.f21.resultTypes.toList Try.f21 [.agg [.int .i64 l, .sl tk [.int .i64] es, .sl tk2 [.int .i64] es2]] [] = bif vev21_1 l tk es tk2 es2 then some (true, AV.bool (vev21_0 l tk es tk2 es2), []) else none := by
  have h : evFin (cfg Try.prog tab 100000 (gk k29 30) lsp21 21 ([] : List Blk).length Try.f21.ntmps) ([] : List Blk).length Try.f21.resultTypes.toList Try.f21 [.agg [.int .i64 l, .sl tk [.int .i64] es, .sl tk2 [.int .i64] es2]] [] = bif (spI g21_2 n21_2 y21_2 z21_2 d21_2 ((tk2, es2, (↑es2.length : Int), l, tk, es, tk2, es2), (0 : Int))).fst then bif xc21_2_0 tk2 es2 (↑es2.length : Int) (rev21_0 l tk es tk2 es2) l tk es tk2 es2 then some (true, AV.bool true, []) else some (true, AV.bool false, []) else none := by kernel_rfl
  rw [h]
  clear h
  unfold vev21_0 vev21_1
  generalize ((spI g21_2 n21_2 y21_2 z21_2 d21_2 ((tk2, es2, (↑es2.length : Int), l, tk, es, tk2, es2), (0 : Int))).fst) = c0
  generalize (xc21_2_0 tk2 es2 (↑es2.length : Int) (rev21_0 l tk es tk2 es2) l tk es tk2 es2) = c1
  cases c0
  · skip
    rfl
  · skip
    cases c1
    · skip
      rfl
    · skip
      rfl
-- spec vev21_1 l tk es tk2 es2 ;; (true, AV.bool (vev21_0 l tk es tk2 es2), [])
noncomputable def sp21 : List AV → List Blk → Option (Bool × AV × List Blk)
  | [.agg [.int .i64 l, .sl tk [.int .i64] es, .sl tk2 [.int .i64] es2]], [] => spW (vev21_1 l tk es tk2 es2) (some ((true, AV.bool (vev21_0 l tk es tk2 es2), [])))
  | _, _ => none
noncomputable def k21 : Gam := fun f T C => match Nat.beq f 21 with
  | true => (sp21 T C).or (k29 f T C)
  | false => k29 f T C
theorem k21_ok : GamOK Try.prog k21 := by
  intro f T C r outs h
  unfold k21 at h
  cases hf : Nat.beq f 21 with
  | false => rw [hf] at h; exact k29_ok f T C r outs h
  | true =>
    have hf' := Nat.eq_of_beq_eq_true hf
    subst hf'
    rw [hf] at h
    dsimp only at h
    cases hs : sp21 T C with
    | none => rw [hs] at h; exact k29_ok _ T C r outs h
    | some x =>
      rw [hs] at h
      have hx : x = (true, r, outs) := by simpa using h
      subst hx
      unfold sp21 at hs
      split at hs
      · rename_i l tk es tk2 es2
        obtain ⟨hb, rfl, rfl⟩ := spT_inv hs
        have he := ev21 l tk es tk2 es2
        rw [hb, cond_true] at he
        obtain ⟨r0, o0, h0, he⟩ := evFin_inv he
        obtain ⟨h1, h2⟩ := fn_ok mixed plain (gk_ok k29_ok 30) Try.func21 loops21 h0
        exact ⟨h1, h2.fin he⟩
      · cases hs
noncomputable def rn22_2_0 (t0k : Tk) (t0 : List (List AV)) (t1 : Int) (t5 : Int) : Int := intOf ((t0.getD t5.toNat []).getD (0 : Nat) AV.junk)
noncomputable def go22_2 (t0k : Tk) (t0 : List (List AV)) (t1 : Int) (t5 : Int) : Bool := bif decide (t5 < (↑t0.length : Int)) then bif bif decide ((0 : Int) ≤ t5) && decide (t5 < (↑t0.length : Int)) then bif !vev16_0 (rn22_2_0 t0k t0 t1 t5) then true else decide ((0 : Int) ≤ t5) && decide (t5 < (↑t0.length : Int)) else false then bif bif decide ((0 : Int) ≤ t5) && decide (t5 < (↑t0.length : Int)) then bif !vev16_0 (rn22_2_0 t0k t0 t1 t5) then true else bif decide ((0 : Int) ≤ t5) && decide (t5 < (↑t0.length : Int)) then decide (rn22_2_0 t0k t0 t1 t5 > t1) else false else false then false else true else false else false
noncomputable def nx22_2_3 (t0k : Tk) (t0 : List (List AV)) (t1 : Int) (t5 : Int) : Int := IntKind.i64.wrap (t5 + (1 : Int))
noncomputable def xc22_2_0 (t0k : Tk) (t0 : List (List AV)) (t1 : Int) (t5 : Int) : Bool := bif decide (t5 < (↑t0.length : Int)) then bif bif decide ((0 : Int) ≤ t5) && decide (t5 < (↑t0.length : Int)) then bif !vev16_0 (rn22_2_0 t0k t0 t1 t5) then true else decide ((0 : Int) ≤ t5) && decide (t5 < (↑t0.length : Int)) else false then bif decide ((0 : Int) ≤ t5) && decide (t5 < (↑t0.length : Int)) then bif !vev16_0 (rn22_2_0 t0k t0 t1 t5) then true else bif decide ((0 : Int) ≤ t5) && decide (t5 < (↑t0.length : Int)) then decide (rn22_2_0 t0k t0 t1 t5 > t1) else false else false else false else false
noncomputable def xc22_2_1 (t0k : Tk) (t0 : List (List AV)) (t1 : Int) (t5 : Int) : Bool := bif decide (t5 < (↑t0.length : Int)) then false else true
theorem rd22_2 (rest : Lsp) (t0k : Tk) (t0 : List (List AV)) (t1 : Int) (t5 : Int) : roundV (cfg Try.prog tab 100000 (gk k21 30) rest 22 0 Try.f22.ntmps) (loopAt Try.f22 2) [0, 1, 5] [] [4] [] [AV.sl t0k [Kd.int IntKind.i64] t0, AV.int IntKind.i64 t1, AV.int IntKind.i64 t5] [] = bif go22_2 t0k t0 t1 t5 then some (Ex.norm, [AV.sl t0k [Kd.int IntKind.i64] t0, AV.int IntKind.i64 t1, AV.int IntKind.i64 (nx22_2_3 t0k t0 t1 t5)], []) else bif xc22_2_0 t0k t0 t1 t5 then some (Ex.ret, [AV.bool false], []) else bif xc22_2_1 t0k t0 t1 t5 then some (Ex.exit (nat_lit 0), [AV.junk], []) else none := by
  have h : roundV (cfg Try.prog tab 100000 (gk k21 30) rest 22 0 Try.f22.ntmps) (loopAt Try.f22 2) [0, 1, 5] [] [4] [] [AV.sl t0k [Kd.int IntKind.i64] t0, AV.int IntKind.i64 t1, AV.int IntKind.i64 t5] [] = bif decide (t5 < (↑t0.length : Int)) then bif bif decide ((0 : Int) ≤ t5) && decide (t5 < (↑t0.length : Int)) then bif !vev16_0 (rn22_2_0 t0k t0 t1 t5) then true else bif decide ((0 : Int) ≤ t5) && decide (t5 < (↑t0.length : Int)) then true else false else false then bif bif decide ((0 : Int) ≤ t5) && decide (t5 < (↑t0.length : Int)) then bif !vev16_0 (rn22_2_0 t0k t0 t1 t5) then true else bif decide ((0 : Int) ≤ t5) && decide (t5 < (↑t0.length : Int)) then bif false then true else decide (rn22_2_0 t0k t0 t1 t5 > t1) else false else false then some (Ex.ret, [AV.bool false], []) else some (Ex.norm, [AV.sl t0k [Kd.int IntKind.i64] t0, AV.int IntKind.i64 t1, AV.int IntKind.i64 (IntKind.i64.wrap (t5 + (1 : Int)))], []) else none else some (Ex.exit (nat_lit 0), [AV.junk], []) := by kernel_rfl
  rw [h]
  clear h
  unfold go22_2 nx22_2_3 xc22_2_0 xc22_2_1
  generalize (decide ((0 : Int) ≤ t5) && decide (t5 < (↑t0.length : Int))) = c0
  generalize (decide (t5 < (↑t0.length : Int))) = c1
  generalize (decide (rn22_2_0 t0k t0 t1 t5 > t1)) = c2
  generalize (!vev16_0 (rn22_2_0 t0k t0 t1 t5)) = c3
  cases c1
  · skip
    rfl
  · skip
    cases c0
    · skip
      rfl
    · skip
      cases c3
      · skip
        cases c2
        · skip
          rfl
        · skip
          rfl
      · skip
        rfl
abbrev pl22_2 : Type := Tk × (List (List AV)) × Int
abbrev sl22_2 : Type := Int
noncomputable def vt22_2 (a : pl22_2 × sl22_2) : List AV := [AV.sl a.1.1 [Kd.int IntKind.i64] a.1.2.1, AV.int IntKind.i64 a.1.2.2, AV.int IntKind.i64 a.2]
noncomputable def vc22_2 (a : pl22_2 × sl22_2) : List Blk := []
noncomputable def de22_2 (vt : List AV) (vc : List Blk) : Option (pl22_2 × sl22_2) :=
  match vt with
  | [qa0, qa1, qa2] => (match vc with
  | [] => (match qa0 with
  | AV.sl t0k [Kd.int IntKind.i64] t0 => (match qa1 with
  | AV.int IntKind.i64 t1 => (match qa2 with
  | AV.int IntKind.i64 t5 => (some ((t0k, t0, t1), t5))
  | _ => none)
  | _ => none)
  | _ => none)
  | _ => none)
  | _ => none
theorem de22_2_ok (vt : List AV) (vc : List Blk) (a : pl22_2 × sl22_2) (h : de22_2 vt vc = some a) : vt = vt22_2 a ∧ vc = vc22_2 a := by
  unfold de22_2 at h
  split at h
  rotate_left
  · cases h
  split at h
  rotate_left
  · cases h
  split at h
  rotate_left
  · cases h
  split at h
  rotate_left
  · cases h
  split at h
  rotate_left
  · cases h
  injection h with h
  subst h
  exact ⟨rfl, rfl⟩
noncomputable def g22_2 (p : pl22_2) (s : sl22_2) : Bool := go22_2 p.1 p.2.1 p.2.2 s
noncomputable def n22_2 (p : pl22_2) (s : sl22_2) : sl22_2 := nx22_2_3 p.1 p.2.1 p.2.2 s
noncomputable def y22_2 (p : pl22_2) (s : sl22_2) : List (Bool × Out) := [(xc22_2_0 p.1 p.2.1 p.2.2 s, (Ex.ret, [AV.bool false], []))]
noncomputable def z22_2 (p : pl22_2) (s : sl22_2) : Bool := xc22_2_1 p.1 p.2.1 p.2.2 s
noncomputable def d22_2 (p : pl22_2) (s : sl22_2) : Out := (Ex.exit (nat_lit 0), [AV.junk], [])
noncomputable def ls22_2 : St → Option (Bool × List (Bool × Ex × St) × Ex × St) := lspOf [0, 1, 5] [] [4] [] Try.f22.ntmps (0 + tab.nid 22) de22_2 (spI g22_2 n22_2 y22_2 z22_2 d22_2)
theorem lo22_2 (rest : Lsp) : LoopOK1 (cfg Try.prog tab 100000 (gk k21 30) (selL 2 ls22_2 rest) 22 0 Try.f22.ntmps) (loopAt Try.f22 2) := LoopOK1.iter (i := 2) (by kernel_rfl) [0, 1, 5] [] [4] [] vt22_2 vc22_2 de22_2 g22_2 n22_2 y22_2 z22_2 d22_2 (fun _ => rfl) de22_2_ok (fun p s => rd22_2 (selL 2 ls22_2 rest) (p.1) (p.2.1) (p.2.2) s) (fun _ _ => rfl)
noncomputable def lsp22 : Lsp := (selL 2 ls22_2 noLsp)
theorem loops22 : ∀ c, Try.f22.body = some c → LoopsOK (cfg Try.prog tab 100000 (gk k21 30) lsp22 22 0 Try.f22.ntmps) c := loops_of [2] (by kernel_rfl) (by kernel_rfl) (fun i hi => by
  simp only [List.mem_cons, List.not_mem_nil, or_false] at hi
  subst hi
  · exact lo22_2 noLsp)
noncomputable def rev22_0 (tk : Tk) (es : List (List AV)) (l : Int) : sl22_2 := finL (g22_2 (tk, es, l)) (n22_2 (tk, es, l)) (0 : Int)
noncomputable def vev22_0 (tk : Tk) (es : List (List AV)) (l : Int) : Bool := bif xc22_2_0 tk es l (rev22_0 tk es l) then false else true
noncomputable def vev22_1 (tk : Tk) (es : List (List AV)) (l : Int) : Bool := bif (spI g22_2 n22_2 y22_2 z22_2 d22_2 ((tk, es, l), (0 : Int))).fst then true else false
theorem ev22 (tk : Tk) (es : List (List AV)) (l : Int) : evFin (cfg Try.prog tab 100000 (gk k21 30) lsp22 22 ([] : List Blk).length Try.f22.ntmps) ([] : List Blk).length Try.f22.resultTypes.toList Try.f22 [.sl tk [.int .i64] es, .int .i64 l] [] = bif vev22_1 tk es l then some (true, AV.bool (vev22_0 tk es l), []) else none := by
  have h : evFin (cfg Try.prog tab 100000 (gk k21 30) lsp22 22 ([] : List Blk).length Try.f22.ntmps) ([] : List Blk).length Try.f22.resultTypes.toList Try.f22 [.sl tk [.int .i64] es, .int .i64 l] [] = bif (spI g22_2 n22_2 y22_2 z22_2 d22_2 ((tk, es, l), (0 : Int))).fst then bif xc22_2_0 tk es l (rev22_0 tk es l) then some (true, AV.bool false, []) else some (true, AV.bool true, []) else none := by kernel_rfl
  rw [h]
  clear h
  unfold vev22_0 vev22_1
  generalize ((spI g22_2 n22_2 y22_2 z22_2 d22_2 ((tk, es, l), (0 : Int))).fst) = c0
  generalize (xc22_2_0 tk es l (rev22_0 tk es l)) = c1
  cases c0
  · skip
    rfl
  · skip
    cases c1
    · skip
      rfl
    · skip
      rfl
-- spec vev22_1 tk es l ;; (true, AV.bool (vev22_0 tk es l), [])
noncomputable def sp22 : List AV → List Blk → Option (Bool × AV × List Blk)
  | [.sl tk [.int .i64] es, .int .i64 l], [] => spW (vev22_1 tk es l) (some ((true, AV.bool (vev22_0 tk es l), [])))
  | _, _ => none
noncomputable def k22 : Gam := fun f T C => match Nat.beq f 22 with
  | true => (sp22 T C).or (k21 f T C)
  | false => k21 f T C
theorem k22_ok : GamOK Try.prog k22 := by
  intro f T C r outs h
  unfold k22 at h
  cases hf : Nat.beq f 22 with
  | false => rw [hf] at h; exact k21_ok f T C r outs h
  | true =>
    have hf' := Nat.eq_of_beq_eq_true hf
    subst hf'
    rw [hf] at h
    dsimp only at h
    cases hs : sp22 T C with
    | none => rw [hs] at h; exact k21_ok _ T C r outs h
    | some x =>
      rw [hs] at h
      have hx : x = (true, r, outs) := by simpa using h
      subst hx
      unfold sp22 at hs
      split at hs
      · rename_i tk es l
        obtain ⟨hb, rfl, rfl⟩ := spT_inv hs
        have he := ev22 tk es l
        rw [hb, cond_true] at he
        obtain ⟨r0, o0, h0, he⟩ := evFin_inv he
        obtain ⟨h1, h2⟩ := fn_ok mixed plain (gk_ok k21_ok 30) Try.func22 loops22 h0
        exact ⟨h1, h2.fin he⟩
      · cases hs
noncomputable def vev9_0 (l : Int) (tk : Tk) (es : List (List AV)) (tk2 : Tk) (es2 : List (List AV)) : Int := bif bif l != (0 : Int) then !vev15_0 l else false then (8 : Int) else bif bif decide ((↑es.length : Int) > (16 : Int)) then true else decide ((↑es2.length : Int) > (8 : Int)) then (7 : Int) else bif !vev19_0 tk es then (10 : Int) else bif vev20_0 tk es l tk es tk2 es2 then (4 : Int) else bif vev20_0 tk2 es2 l tk es tk2 es2 then (4 : Int) else bif vev21_0 l tk es tk2 es2 then (12 : Int) else (0 : Int)
noncomputable def vev9_1 (l : Int) (tk : Tk) (es : List (List AV)) (tk2 : Tk) (es2 : List (List AV)) : Bool := bif bif l != (0 : Int) then !vev15_0 l else false then true else bif bif decide ((↑es.length : Int) > (16 : Int)) then true else decide ((↑es2.length : Int) > (8 : Int)) then true else bif vev19_1 tk es then bif !vev19_0 tk es then true else bif vev20_1 tk es l tk es tk2 es2 then bif vev20_0 tk es l tk es tk2 es2 then true else bif vev20_1 tk2 es2 l tk es tk2 es2 then bif vev20_0 tk2 es2 l tk es tk2 es2 then true else bif vev21_1 l tk es tk2 es2 then true else false else false else false else false
theorem ev9 (l : Int) (tk : Tk) (es : List (List AV)) (tk2 : Tk) (es2 : List (List AV)) : evFin (cfg Try.prog tab 100000 (gk k22 30) noLsp 9 ([] : List Blk).length Try.f9.ntmps) ([] : List Blk).length Try.f9.resultTypes.toList Try.f9 [.agg [.int .i64 l, .sl tk [.int .i64] es, .sl tk2 [.int .i64] es2]] [] = bif vev9_1 l tk es tk2 es2 then some (true, AV.int IntKind.i64 (vev9_0 l tk es tk2 es2), []) else none := by
  have h : evFin (cfg Try.prog tab 100000 (gk k22 30) noLsp 9 ([] : List Blk).length Try.f9.ntmps) ([] : List Blk).length Try.f9.resultTypes.toList Try.f9 [.agg [.int .i64 l, .sl tk [.int .i64] es, .sl tk2 [.int .i64] es2]] [] = bif bif l != (0 : Int) then true else true then bif bif l != (0 : Int) then bif true then !vev15_0 l else false else false then some (true, AV.int IntKind.i64 (8 : Int), []) else bif bif decide ((↑es.length : Int) > (16 : Int)) then true else true then bif bif decide ((↑es.length : Int) > (16 : Int)) then true else bif false then true else decide ((↑es2.length : Int) > (8 : Int)) then some (true, AV.int IntKind.i64 (7 : Int), []) else bif vev19_1 tk es then bif !vev19_0 tk es then some (true, AV.int IntKind.i64 (10 : Int), []) else bif vev20_1 tk es l tk es tk2 es2 then bif vev20_0 tk es l tk es tk2 es2 then some (true, AV.int IntKind.i64 (4 : Int), []) else bif vev20_1 tk2 es2 l tk es tk2 es2 then bif bif false then true else vev20_0 tk2 es2 l tk es tk2 es2 then some (true, AV.int IntKind.i64 (4 : Int), []) else bif vev21_1 l tk es tk2 es2 then bif vev21_0 l tk es tk2 es2 then some (true, AV.int IntKind.i64 (12 : Int), []) else some (true, AV.int IntKind.i64 (0 : Int), []) else none else none else none else none else none else none := by kernel_rfl
  rw [h]
  clear h
  unfold vev9_0 vev9_1
  generalize (decide ((↑es2.length : Int) > (8 : Int))) = c0
  generalize (decide ((↑es.length : Int) > (16 : Int))) = c1
  generalize (l != (0 : Int)) = c2
  generalize (vev20_1 tk es l tk es tk2 es2) = c3
  generalize (vev20_1 tk2 es2 l tk es tk2 es2) = c4
  generalize (vev20_0 tk es l tk es tk2 es2) = c5
  generalize (vev20_0 tk2 es2 l tk es tk2 es2) = c6
  generalize (vev21_0 l tk es tk2 es2) = c7
  generalize (vev21_1 l tk es tk2 es2) = c8
  generalize (!vev19_0 tk es) = c9
  generalize (vev19_1 tk es) = c10
  generalize (!vev15_0 l) = c11
  cases c2
  · skip
    cases c1
    · skip
      cases c0
      · skip
        cases c10
        · skip
          rfl
        · skip
          cases c9
          · skip
            cases c3
            · skip
              rfl
            · skip
              cases c5
              · skip
                cases c4
                · skip
                  rfl
                · skip
                  cases c6
                  · skip
                    cases c8
                    · skip
                      rfl
                    · skip
                      cases c7
                      · skip
                        rfl
                      · skip
                        rfl
                  · skip
                    rfl
              · skip
                rfl
          · skip
            rfl
      · skip
        rfl
    · skip
      rfl
  · skip
    cases c11
    · skip
      cases c1
      · skip
        cases c0
        · skip
          cases c10
          · skip
            rfl
          · skip
            cases c9
            · skip
              cases c3
              · skip
                rfl
              · skip
                cases c5
                · skip
                  cases c4
                  · skip
                    rfl
                  · skip
                    cases c6
                    · skip
                      cases c8
                      · skip
                        rfl
                      · skip
                        cases c7
                        · skip
                          rfl
                        · skip
                          rfl
                    · skip
                      rfl
                · skip
                  rfl
            · skip
              rfl
        · skip
          rfl
      · skip
        rfl
    · skip
      rfl
-- spec vev9_1 l tk es tk2 es2 ;; (true, AV.int IntKind.i64 (vev9_0 l tk es tk2 es2), [])
noncomputable def sp9 : List AV → List Blk → Option (Bool × AV × List Blk)
  | [.agg [.int .i64 l, .sl tk [.int .i64] es, .sl tk2 [.int .i64] es2]], [] => spW (vev9_1 l tk es tk2 es2) (some ((true, AV.int IntKind.i64 (vev9_0 l tk es tk2 es2), [])))
  | _, _ => none
noncomputable def k9 : Gam := fun f T C => match Nat.beq f 9 with
  | true => (sp9 T C).or (k22 f T C)
  | false => k22 f T C
theorem k9_ok : GamOK Try.prog k9 := by
  intro f T C r outs h
  unfold k9 at h
  cases hf : Nat.beq f 9 with
  | false => rw [hf] at h; exact k22_ok f T C r outs h
  | true =>
    have hf' := Nat.eq_of_beq_eq_true hf
    subst hf'
    rw [hf] at h
    dsimp only at h
    cases hs : sp9 T C with
    | none => rw [hs] at h; exact k22_ok _ T C r outs h
    | some x =>
      rw [hs] at h
      have hx : x = (true, r, outs) := by simpa using h
      subst hx
      unfold sp9 at hs
      split at hs
      · rename_i l tk es tk2 es2
        obtain ⟨hb, rfl, rfl⟩ := spT_inv hs
        have he := ev9 l tk es tk2 es2
        rw [hb, cond_true] at he
        obtain ⟨r0, o0, h0, he⟩ := evFin_inv he
        obtain ⟨h1, h2⟩ := fn_ok mixed plain (gk_ok k22_ok 30) Try.func9 (fun c _ => LoopsOK.none (fun _ _ => rfl) c) h0
        exact ⟨h1, h2.fin he⟩
      · cases hs
noncomputable def go7_10 (t1 : Int) (t5 : Int) (t6 : Int) (t23_0 : List (List AV)) (t23_1 : List (List AV)) (t24 : Int) (t28 : List (List AV)) (t29 : Int) (t30 : Int) : Bool := bif decide (t30 < t29) then bif decide ((0 : Int) ≤ t30) && decide (t30 < (↑t28.length : Int)) then bif intOf ((t28.getD t30.toNat []).getD (0 : Nat) AV.junk) == t1 then false else true else false else false
noncomputable def nx7_10_8 (t1 : Int) (t5 : Int) (t6 : Int) (t23_0 : List (List AV)) (t23_1 : List (List AV)) (t24 : Int) (t28 : List (List AV)) (t29 : Int) (t30 : Int) : Int := IntKind.i64.wrap (t30 + (1 : Int))
noncomputable def xc7_10_0 (t1 : Int) (t5 : Int) (t6 : Int) (t23_0 : List (List AV)) (t23_1 : List (List AV)) (t24 : Int) (t28 : List (List AV)) (t29 : Int) (t30 : Int) : Bool := bif decide (t30 < t29) then bif decide ((0 : Int) ≤ t30) && decide (t30 < (↑t28.length : Int)) then bif intOf ((t28.getD t30.toNat []).getD (0 : Nat) AV.junk) == t1 then decide ((0 : Int) ≤ t6) && decide (t6 < (↑(2 : Nat) : Int)) else false else false else false
noncomputable def xv7_10_0_0 (t1 : Int) (t5 : Int) (t6 : Int) (t23_0 : List (List AV)) (t23_1 : List (List AV)) (t24 : Int) (t28 : List (List AV)) (t29 : Int) (t30 : Int) : Int := intOf ([AV.int IntKind.i64 (2 : Int), AV.int IntKind.i64 (4 : Int)].getD t6.toNat AV.junk)
noncomputable def xc7_10_1 (t1 : Int) (t5 : Int) (t6 : Int) (t23_0 : List (List AV)) (t23_1 : List (List AV)) (t24 : Int) (t28 : List (List AV)) (t29 : Int) (t30 : Int) : Bool := bif decide (t30 < t29) then false else true
theorem rd7_10 (rest : Lsp) (t1 : Int) (t5 : Int) (t6 : Int) (t23_0 : List (List AV)) (t23_1 : List (List AV)) (t24 : Int) (t28 : List (List AV)) (t29 : Int) (t30 : Int) : roundV (cfg Try.prog tab 100000 (gk k9 30) rest 7 0 Try.f7.ntmps) (loopAt Try.f7 10) [1, 5, 6, 23, 24, 28, 29, 30] [] [1, 5, 23, 24] [] [AV.int IntKind.i64 t1, AV.int IntKind.i64 t5, AV.int IntKind.i64 t6, AV.agg [AV.sl Tk.imm [Kd.int IntKind.i64] t23_0, AV.sl Tk.imm [Kd.int IntKind.i64] t23_1], AV.int IntKind.i64 t24, AV.sl Tk.imm [Kd.int IntKind.i64] t28, AV.int IntKind.i64 t29, AV.int IntKind.i64 t30] [] = bif go7_10 t1 t5 t6 t23_0 t23_1 t24 t28 t29 t30 then some (Ex.norm, [AV.int IntKind.i64 t1, AV.int IntKind.i64 t5, AV.int IntKind.i64 t6, AV.agg [AV.sl Tk.imm [Kd.int IntKind.i64] t23_0, AV.sl Tk.imm [Kd.int IntKind.i64] t23_1], AV.int IntKind.i64 t24, AV.sl Tk.imm [Kd.int IntKind.i64] t28, AV.int IntKind.i64 t29, AV.int IntKind.i64 (nx7_10_8 t1 t5 t6 t23_0 t23_1 t24 t28 t29 t30)], []) else bif xc7_10_0 t1 t5 t6 t23_0 t23_1 t24 t28 t29 t30 then some (Ex.exit (nat_lit 1), [AV.int IntKind.i64 t1, AV.int IntKind.i64 (xv7_10_0_0 t1 t5 t6 t23_0 t23_1 t24 t28 t29 t30), AV.agg [AV.sl Tk.imm [Kd.int IntKind.i64] t23_0, AV.sl Tk.imm [Kd.int IntKind.i64] t23_1], AV.int IntKind.i64 t24], []) else bif xc7_10_1 t1 t5 t6 t23_0 t23_1 t24 t28 t29 t30 then some (Ex.exit (nat_lit 3), [AV.int IntKind.i64 t1, AV.int IntKind.i64 t5, AV.agg [AV.sl Tk.imm [Kd.int IntKind.i64] t23_0, AV.sl Tk.imm [Kd.int IntKind.i64] t23_1], AV.int IntKind.i64 t24], []) else none := by
  have h : roundV (cfg Try.prog tab 100000 (gk k9 30) rest 7 0 Try.f7.ntmps) (loopAt Try.f7 10) [1, 5, 6, 23, 24, 28, 29, 30] [] [1, 5, 23, 24] [] [AV.int IntKind.i64 t1, AV.int IntKind.i64 t5, AV.int IntKind.i64 t6, AV.agg [AV.sl Tk.imm [Kd.int IntKind.i64] t23_0, AV.sl Tk.imm [Kd.int IntKind.i64] t23_1], AV.int IntKind.i64 t24, AV.sl Tk.imm [Kd.int IntKind.i64] t28, AV.int IntKind.i64 t29, AV.int IntKind.i64 t30] [] = bif decide (t30 < t29) then bif decide ((0 : Int) ≤ t30) && decide (t30 < (↑t28.length : Int)) then bif intOf ((t28.getD t30.toNat []).getD (0 : Nat) AV.junk) == t1 then bif decide ((0 : Int) ≤ t6) && decide (t6 < (↑(2 : Nat) : Int)) then some (Ex.exit (nat_lit 1), [AV.int IntKind.i64 t1, AV.int IntKind.i64 (intOf ([AV.int IntKind.i64 (2 : Int), AV.int IntKind.i64 (4 : Int)].getD t6.toNat AV.junk)), AV.agg [AV.sl Tk.imm [Kd.int IntKind.i64] t23_0, AV.sl Tk.imm [Kd.int IntKind.i64] t23_1], AV.int IntKind.i64 t24], []) else none else some (Ex.norm, [AV.int IntKind.i64 t1, AV.int IntKind.i64 t5, AV.int IntKind.i64 t6, AV.agg [AV.sl Tk.imm [Kd.int IntKind.i64] t23_0, AV.sl Tk.imm [Kd.int IntKind.i64] t23_1], AV.int IntKind.i64 t24, AV.sl Tk.imm [Kd.int IntKind.i64] t28, AV.int IntKind.i64 t29, AV.int IntKind.i64 (IntKind.i64.wrap (t30 + (1 : Int)))], []) else none else some (Ex.exit (nat_lit 3), [AV.int IntKind.i64 t1, AV.int IntKind.i64 t5, AV.agg [AV.sl Tk.imm [Kd.int IntKind.i64] t23_0, AV.sl Tk.imm [Kd.int IntKind.i64] t23_1], AV.int IntKind.i64 t24], []) := by kernel_rfl
  rw [h]
  clear h
  unfold go7_10 nx7_10_8 xc7_10_0 xv7_10_0_0 xc7_10_1
  generalize (decide ((0 : Int) ≤ t6) && decide (t6 < (↑(2 : Nat) : Int))) = c0
  generalize (decide ((0 : Int) ≤ t30) && decide (t30 < (↑t28.length : Int))) = c1
  generalize (intOf ((t28.getD t30.toNat []).getD (0 : Nat) AV.junk) == t1) = c2
  generalize (decide (t30 < t29)) = c3
  cases c3
  · skip
    rfl
  · skip
    cases c1
    · skip
      rfl
    · skip
      cases c2
      · skip
        rfl
      · skip
        cases c0
        · skip
          rfl
        · skip
          rfl
abbrev pl7_10 : Type := Int × Int × Int × (List (List AV)) × (List (List AV)) × Int × (List (List AV)) × Int
abbrev sl7_10 : Type := Int
noncomputable def vt7_10 (a : pl7_10 × sl7_10) : List AV := [AV.int IntKind.i64 a.1.1, AV.int IntKind.i64 a.1.2.1, AV.int IntKind.i64 a.1.2.2.1, AV.agg [AV.sl Tk.imm [Kd.int IntKind.i64] a.1.2.2.2.1, AV.sl Tk.imm [Kd.int IntKind.i64] a.1.2.2.2.2.1], AV.int IntKind.i64 a.1.2.2.2.2.2.1, AV.sl Tk.imm [Kd.int IntKind.i64] a.1.2.2.2.2.2.2.1, AV.int IntKind.i64 a.1.2.2.2.2.2.2.2, AV.int IntKind.i64 a.2]
noncomputable def vc7_10 (a : pl7_10 × sl7_10) : List Blk := []
noncomputable def de7_10 (vt : List AV) (vc : List Blk) : Option (pl7_10 × sl7_10) :=
  match vt with
  | [qa0, qa1, qa2, qa3, qa4, qa5, qa6, qa7] => (match vc with
  | [] => (match qa0 with
  | AV.int IntKind.i64 t1 => (match qa1 with
  | AV.int IntKind.i64 t5 => (match qa2 with
  | AV.int IntKind.i64 t6 => (match qa3 with
  | AV.agg [AV.sl Tk.imm [Kd.int IntKind.i64] t23_0, AV.sl Tk.imm [Kd.int IntKind.i64] t23_1] => (match qa4 with
  | AV.int IntKind.i64 t24 => (match qa5 with
  | AV.sl Tk.imm [Kd.int IntKind.i64] t28 => (match qa6 with
  | AV.int IntKind.i64 t29 => (match qa7 with
  | AV.int IntKind.i64 t30 => (some ((t1, t5, t6, t23_0, t23_1, t24, t28, t29), t30))
  | _ => none)
  | _ => none)
  | _ => none)
  | _ => none)
  | _ => none)
  | _ => none)
  | _ => none)
  | _ => none)
  | _ => none)
  | _ => none
theorem de7_10_ok (vt : List AV) (vc : List Blk) (a : pl7_10 × sl7_10) (h : de7_10 vt vc = some a) : vt = vt7_10 a ∧ vc = vc7_10 a := by
  unfold de7_10 at h
  split at h
  rotate_left
  · cases h
  split at h
  rotate_left
  · cases h
  split at h
  rotate_left
  · cases h
  split at h
  rotate_left
  · cases h
  split at h
  rotate_left
  · cases h
  split at h
  rotate_left
  · cases h
  split at h
  rotate_left
  · cases h
  split at h
  rotate_left
  · cases h
  split at h
  rotate_left
  · cases h
  split at h
  rotate_left
  · cases h
  injection h with h
  subst h
  exact ⟨rfl, rfl⟩
noncomputable def g7_10 (p : pl7_10) (s : sl7_10) : Bool := go7_10 p.1 p.2.1 p.2.2.1 p.2.2.2.1 p.2.2.2.2.1 p.2.2.2.2.2.1 p.2.2.2.2.2.2.1 p.2.2.2.2.2.2.2 s
noncomputable def n7_10 (p : pl7_10) (s : sl7_10) : sl7_10 := nx7_10_8 p.1 p.2.1 p.2.2.1 p.2.2.2.1 p.2.2.2.2.1 p.2.2.2.2.2.1 p.2.2.2.2.2.2.1 p.2.2.2.2.2.2.2 s
noncomputable def y7_10 (p : pl7_10) (s : sl7_10) : List (Bool × Out) := [(xc7_10_0 p.1 p.2.1 p.2.2.1 p.2.2.2.1 p.2.2.2.2.1 p.2.2.2.2.2.1 p.2.2.2.2.2.2.1 p.2.2.2.2.2.2.2 s, (Ex.exit (nat_lit 1), [AV.int IntKind.i64 p.1, AV.int IntKind.i64 (xv7_10_0_0 p.1 p.2.1 p.2.2.1 p.2.2.2.1 p.2.2.2.2.1 p.2.2.2.2.2.1 p.2.2.2.2.2.2.1 p.2.2.2.2.2.2.2 s), AV.agg [AV.sl Tk.imm [Kd.int IntKind.i64] p.2.2.2.1, AV.sl Tk.imm [Kd.int IntKind.i64] p.2.2.2.2.1], AV.int IntKind.i64 p.2.2.2.2.2.1], []))]
noncomputable def z7_10 (p : pl7_10) (s : sl7_10) : Bool := xc7_10_1 p.1 p.2.1 p.2.2.1 p.2.2.2.1 p.2.2.2.2.1 p.2.2.2.2.2.1 p.2.2.2.2.2.2.1 p.2.2.2.2.2.2.2 s
noncomputable def d7_10 (p : pl7_10) (s : sl7_10) : Out := (Ex.exit (nat_lit 3), [AV.int IntKind.i64 p.1, AV.int IntKind.i64 p.2.1, AV.agg [AV.sl Tk.imm [Kd.int IntKind.i64] p.2.2.2.1, AV.sl Tk.imm [Kd.int IntKind.i64] p.2.2.2.2.1], AV.int IntKind.i64 p.2.2.2.2.2.1], [])
noncomputable def ls7_10 : St → Option (Bool × List (Bool × Ex × St) × Ex × St) := lspOf [1, 5, 6, 23, 24, 28, 29, 30] [] [1, 5, 23, 24] [] Try.f7.ntmps (0 + tab.nid 7) de7_10 (spI g7_10 n7_10 y7_10 z7_10 d7_10)
theorem lo7_10 (rest : Lsp) : LoopOK1 (cfg Try.prog tab 100000 (gk k9 30) (selL 10 ls7_10 rest) 7 0 Try.f7.ntmps) (loopAt Try.f7 10) := LoopOK1.iter (i := 10) (by kernel_rfl) [1, 5, 6, 23, 24, 28, 29, 30] [] [1, 5, 23, 24] [] vt7_10 vc7_10 de7_10 g7_10 n7_10 y7_10 z7_10 d7_10 (fun _ => rfl) de7_10_ok (fun p s => rd7_10 (selL 10 ls7_10 rest) (p.1) (p.2.1) (p.2.2.1) (p.2.2.2.1) (p.2.2.2.2.1) (p.2.2.2.2.2.1) (p.2.2.2.2.2.2.1) (p.2.2.2.2.2.2.2) s) (fun _ _ => rfl)
noncomputable def rn7_7_0 (t1 : Int) (t5 : Int) (t23_0 : List (List AV)) (t23_1 : List (List AV)) (t24 : Int) : List (List AV) := elsO ([AV.sl Tk.imm [Kd.int IntKind.i64] t23_0, AV.sl Tk.imm [Kd.int IntKind.i64] t23_1].getD t24.toNat AV.junk)
noncomputable def rn7_7_1 (t1 : Int) (t5 : Int) (t23_0 : List (List AV)) (t23_1 : List (List AV)) (t24 : Int) : Int := (↑(rn7_7_0 t1 t5 t23_0 t23_1 t24).length : Int)
noncomputable def rn7_7_2 (t1 : Int) (t5 : Int) (t23_0 : List (List AV)) (t23_1 : List (List AV)) (t24 : Int) : sl7_10 := finL (g7_10 (t1, t5, t24, t23_0, t23_1, t24, rn7_7_0 t1 t5 t23_0 t23_1 t24, rn7_7_1 t1 t5 t23_0 t23_1 t24)) (n7_10 (t1, t5, t24, t23_0, t23_1, t24, rn7_7_0 t1 t5 t23_0 t23_1 t24, rn7_7_1 t1 t5 t23_0 t23_1 t24)) (0 : Int)
noncomputable def go7_7 (t1 : Int) (t5 : Int) (t23_0 : List (List AV)) (t23_1 : List (List AV)) (t24 : Int) : Bool := bif decide (t24 < (2 : Int)) then bif decide ((0 : Int) ≤ t24) && decide (t24 < (↑(2 : Nat) : Int)) then bif (spI g7_10 n7_10 y7_10 z7_10 d7_10 ((t1, t5, t24, t23_0, t23_1, t24, rn7_7_0 t1 t5 t23_0 t23_1 t24, rn7_7_1 t1 t5 t23_0 t23_1 t24), (0 : Int))).fst then bif xc7_10_0 t1 t5 t24 t23_0 t23_1 t24 (rn7_7_0 t1 t5 t23_0 t23_1 t24) (rn7_7_1 t1 t5 t23_0 t23_1 t24) (rn7_7_2 t1 t5 t23_0 t23_1 t24) then false else true else false else false else false
noncomputable def nx7_7_4 (t1 : Int) (t5 : Int) (t23_0 : List (List AV)) (t23_1 : List (List AV)) (t24 : Int) : Int := IntKind.i64.wrap (t24 + (1 : Int))
noncomputable def xc7_7_0 (t1 : Int) (t5 : Int) (t23_0 : List (List AV)) (t23_1 : List (List AV)) (t24 : Int) : Bool := bif decide (t24 < (2 : Int)) then bif decide ((0 : Int) ≤ t24) && decide (t24 < (↑(2 : Nat) : Int)) then bif (spI g7_10 n7_10 y7_10 z7_10 d7_10 ((t1, t5, t24, t23_0, t23_1, t24, rn7_7_0 t1 t5 t23_0 t23_1 t24, rn7_7_1 t1 t5 t23_0 t23_1 t24), (0 : Int))).fst then xc7_10_0 t1 t5 t24 t23_0 t23_1 t24 (rn7_7_0 t1 t5 t23_0 t23_1 t24) (rn7_7_1 t1 t5 t23_0 t23_1 t24) (rn7_7_2 t1 t5 t23_0 t23_1 t24) else false else false else true
noncomputable def xv7_7_0_0 (t1 : Int) (t5 : Int) (t23_0 : List (List AV)) (t23_1 : List (List AV)) (t24 : Int) : Int := bif decide (t24 < (2 : Int)) then xv7_10_0_0 t1 t5 t24 t23_0 t23_1 t24 (rn7_7_0 t1 t5 t23_0 t23_1 t24) (rn7_7_1 t1 t5 t23_0 t23_1 t24) (rn7_7_2 t1 t5 t23_0 t23_1 t24) else t5
theorem rd7_7 (rest : Lsp) (t1 : Int) (t5 : Int) (t23_0 : List (List AV)) (t23_1 : List (List AV)) (t24 : Int) : roundV (cfg Try.prog tab 100000 (gk k9 30) (selL 10 ls7_10 rest) 7 0 Try.f7.ntmps) (loopAt Try.f7 7) [1, 5, 23, 24] [] [5] [] [AV.int IntKind.i64 t1, AV.int IntKind.i64 t5, AV.agg [AV.sl Tk.imm [Kd.int IntKind.i64] t23_0, AV.sl Tk.imm [Kd.int IntKind.i64] t23_1], AV.int IntKind.i64 t24] [] = bif go7_7 t1 t5 t23_0 t23_1 t24 then some (Ex.norm, [AV.int IntKind.i64 t1, AV.int IntKind.i64 t5, AV.agg [AV.sl Tk.imm [Kd.int IntKind.i64] t23_0, AV.sl Tk.imm [Kd.int IntKind.i64] t23_1], AV.int IntKind.i64 (nx7_7_4 t1 t5 t23_0 t23_1 t24)], []) else bif xc7_7_0 t1 t5 t23_0 t23_1 t24 then some (Ex.exit (nat_lit 1), [AV.int IntKind.i64 (xv7_7_0_0 t1 t5 t23_0 t23_1 t24)], []) else none := by
  have h : roundV (cfg Try.prog tab 100000 (gk k9 30) (selL 10 ls7_10 rest) 7 0 Try.f7.ntmps) (loopAt Try.f7 7) [1, 5, 23, 24] [] [5] [] [AV.int IntKind.i64 t1, AV.int IntKind.i64 t5, AV.agg [AV.sl Tk.imm [Kd.int IntKind.i64] t23_0, AV.sl Tk.imm [Kd.int IntKind.i64] t23_1], AV.int IntKind.i64 t24] [] = bif decide (t24 < (2 : Int)) then bif decide ((0 : Int) ≤ t24) && decide (t24 < (↑(2 : Nat) : Int)) then bif (spI g7_10 n7_10 y7_10 z7_10 d7_10 ((t1, t5, t24, t23_0, t23_1, t24, rn7_7_0 t1 t5 t23_0 t23_1 t24, rn7_7_1 t1 t5 t23_0 t23_1 t24), (0 : Int))).fst then bif xc7_10_0 t1 t5 t24 t23_0 t23_1 t24 (rn7_7_0 t1 t5 t23_0 t23_1 t24) (rn7_7_1 t1 t5 t23_0 t23_1 t24) (rn7_7_2 t1 t5 t23_0 t23_1 t24) then some (Ex.exit (nat_lit 1), [AV.int IntKind.i64 (xv7_10_0_0 t1 t5 t24 t23_0 t23_1 t24 (rn7_7_0 t1 t5 t23_0 t23_1 t24) (rn7_7_1 t1 t5 t23_0 t23_1 t24) (rn7_7_2 t1 t5 t23_0 t23_1 t24))], []) else some (Ex.norm, [AV.int IntKind.i64 t1, AV.int IntKind.i64 t5, AV.agg [AV.sl Tk.imm [Kd.int IntKind.i64] t23_0, AV.sl Tk.imm [Kd.int IntKind.i64] t23_1], AV.int IntKind.i64 (IntKind.i64.wrap (t24 + (1 : Int)))], []) else none else none else some (Ex.exit (nat_lit 1), [AV.int IntKind.i64 t5], []) := by kernel_rfl
  rw [h]
  clear h
  unfold go7_7 nx7_7_4 xc7_7_0 xv7_7_0_0
  generalize ((spI g7_10 n7_10 y7_10 z7_10 d7_10 ((t1, t5, t24, t23_0, t23_1, t24, rn7_7_0 t1 t5 t23_0 t23_1 t24, rn7_7_1 t1 t5 t23_0 t23_1 t24), (0 : Int))).fst) = c0
  generalize (decide ((0 : Int) ≤ t24) && decide (t24 < (↑(2 : Nat) : Int))) = c1
  generalize (xc7_10_0 t1 t5 t24 t23_0 t23_1 t24 (rn7_7_0 t1 t5 t23_0 t23_1 t24) (rn7_7_1 t1 t5 t23_0 t23_1 t24) (rn7_7_2 t1 t5 t23_0 t23_1 t24)) = c2
  generalize (decide (t24 < (2 : Int))) = c3
  cases c3
  · skip
    rfl
  · skip
    cases c1
    · skip
      rfl
    · skip
      cases c0
      · skip
        rfl
      · skip
        cases c2
        · skip
          rfl
        · skip
          rfl
abbrev pl7_7 : Type := Int × Int × (List (List AV)) × (List (List AV))
abbrev sl7_7 : Type := Int
noncomputable def vt7_7 (a : pl7_7 × sl7_7) : List AV := [AV.int IntKind.i64 a.1.1, AV.int IntKind.i64 a.1.2.1, AV.agg [AV.sl Tk.imm [Kd.int IntKind.i64] a.1.2.2.1, AV.sl Tk.imm [Kd.int IntKind.i64] a.1.2.2.2], AV.int IntKind.i64 a.2]
noncomputable def vc7_7 (a : pl7_7 × sl7_7) : List Blk := []
noncomputable def de7_7 (vt : List AV) (vc : List Blk) : Option (pl7_7 × sl7_7) :=
  match vt with
  | [qa0, qa1, qa2, qa3] => (match vc with
  | [] => (match qa0 with
  | AV.int IntKind.i64 t1 => (match qa1 with
  | AV.int IntKind.i64 t5 => (match qa2 with
  | AV.agg [AV.sl Tk.imm [Kd.int IntKind.i64] t23_0, AV.sl Tk.imm [Kd.int IntKind.i64] t23_1] => (match qa3 with
  | AV.int IntKind.i64 t24 => (some ((t1, t5, t23_0, t23_1), t24))
  | _ => none)
  | _ => none)
  | _ => none)
  | _ => none)
  | _ => none)
  | _ => none
theorem de7_7_ok (vt : List AV) (vc : List Blk) (a : pl7_7 × sl7_7) (h : de7_7 vt vc = some a) : vt = vt7_7 a ∧ vc = vc7_7 a := by
  unfold de7_7 at h
  split at h
  rotate_left
  · cases h
  split at h
  rotate_left
  · cases h
  split at h
  rotate_left
  · cases h
  split at h
  rotate_left
  · cases h
  split at h
  rotate_left
  · cases h
  split at h
  rotate_left
  · cases h
  injection h with h
  subst h
  exact ⟨rfl, rfl⟩
noncomputable def g7_7 (p : pl7_7) (s : sl7_7) : Bool := go7_7 p.1 p.2.1 p.2.2.1 p.2.2.2 s
noncomputable def n7_7 (p : pl7_7) (s : sl7_7) : sl7_7 := nx7_7_4 p.1 p.2.1 p.2.2.1 p.2.2.2 s
noncomputable def y7_7 (p : pl7_7) (s : sl7_7) : List (Bool × Out) := []
noncomputable def z7_7 (p : pl7_7) (s : sl7_7) : Bool := xc7_7_0 p.1 p.2.1 p.2.2.1 p.2.2.2 s
noncomputable def d7_7 (p : pl7_7) (s : sl7_7) : Out := (Ex.exit (nat_lit 1), [AV.int IntKind.i64 (xv7_7_0_0 p.1 p.2.1 p.2.2.1 p.2.2.2 s)], [])
noncomputable def ls7_7 : St → Option (Bool × List (Bool × Ex × St) × Ex × St) := lspOf [1, 5, 23, 24] [] [5] [] Try.f7.ntmps (0 + tab.nid 7) de7_7 (spI g7_7 n7_7 y7_7 z7_7 d7_7)
theorem lo7_7 (rest : Lsp) : LoopOK1 (cfg Try.prog tab 100000 (gk k9 30) (selL 10 ls7_10 (selL 7 ls7_7 rest)) 7 0 Try.f7.ntmps) (loopAt Try.f7 7) := LoopOK1.iter (i := 7) (by kernel_rfl) [1, 5, 23, 24] [] [5] [] vt7_7 vc7_7 de7_7 g7_7 n7_7 y7_7 z7_7 d7_7 (fun _ => rfl) de7_7_ok (fun p s => rd7_7 (selL 7 ls7_7 rest) (p.1) (p.2.1) (p.2.2.1) (p.2.2.2) s) (fun _ _ => rfl)
noncomputable def lsp7 : Lsp := (selL 10 ls7_10 (selL 7 ls7_7 noLsp))
theorem loops7 : ∀ c, Try.f7.body = some c → LoopsOK (cfg Try.prog tab 100000 (gk k9 30) lsp7 7 0 Try.f7.ntmps) c := loops_of [7, 10] (by kernel_rfl) (by kernel_rfl) (fun i hi => by
  simp only [List.mem_cons, List.not_mem_nil, or_false] at hi
  rcases hi with rfl | rfl
  · exact lo7_7 noLsp
  · exact lo7_10 (selL 7 ls7_7 noLsp))
noncomputable def rev7_0 (l : Int) (es : List (List AV)) (es2 : List (List AV)) (id : Int) : sl7_7 := finL (g7_7 (id, (3 : Int), es, es2)) (n7_7 (id, (3 : Int), es, es2)) (0 : Int)
noncomputable def vev7_0 (l : Int) (es : List (List AV)) (es2 : List (List AV)) (id : Int) : Int := bif !vev15_0 id then (0 : Int) else bif decide (id > l) then (1 : Int) else xv7_7_0_0 id (3 : Int) es es2 (rev7_0 l es es2 id)
noncomputable def vev7_1 (l : Int) (es : List (List AV)) (es2 : List (List AV)) (id : Int) : Bool := bif !vev15_0 id then true else bif decide (id > l) then true else bif (spI g7_7 n7_7 y7_7 z7_7 d7_7 ((id, (3 : Int), es, es2), (0 : Int))).fst then true else false
theorem ev7 (l : Int) (es : List (List AV)) (es2 : List (List AV)) (id : Int) : evFin (cfg Try.prog tab 100000 (gk k9 30) lsp7 7 ([] : List Blk).length Try.f7.ntmps) ([] : List Blk).length Try.f7.resultTypes.toList Try.f7 [.agg [.int .i64 l, .sl .imm [.int .i64] es, .sl .imm [.int .i64] es2], .int .i64 id] [] = bif vev7_1 l es es2 id then some (true, AV.int IntKind.i64 (vev7_0 l es es2 id), []) else none := by
  have h : evFin (cfg Try.prog tab 100000 (gk k9 30) lsp7 7 ([] : List Blk).length Try.f7.ntmps) ([] : List Blk).length Try.f7.resultTypes.toList Try.f7 [.agg [.int .i64 l, .sl .imm [.int .i64] es, .sl .imm [.int .i64] es2], .int .i64 id] [] = bif !vev15_0 id then some (true, AV.int IntKind.i64 (0 : Int), []) else bif decide (id > l) then some (true, AV.int IntKind.i64 (1 : Int), []) else bif (spI g7_7 n7_7 y7_7 z7_7 d7_7 ((id, (3 : Int), es, es2), (0 : Int))).fst then some (true, AV.int IntKind.i64 (xv7_7_0_0 id (3 : Int) es es2 (rev7_0 l es es2 id)), []) else none := by kernel_rfl
  rw [h]
  clear h
  unfold vev7_0 vev7_1
  generalize ((spI g7_7 n7_7 y7_7 z7_7 d7_7 ((id, (3 : Int), es, es2), (0 : Int))).fst) = c0
  generalize (decide (id > l)) = c1
  generalize (!vev15_0 id) = c2
  cases c2
  · skip
    cases c1
    · skip
      cases c0
      · skip
        rfl
      · skip
        rfl
    · skip
      rfl
  · skip
    rfl
-- spec vev7_1 l es es2 id ;; (true, AV.int IntKind.i64 (vev7_0 l es es2 id), [])
noncomputable def sp7 : List AV → List Blk → Option (Bool × AV × List Blk)
  | [.agg [.int .i64 l, .sl .imm [.int .i64] es, .sl .imm [.int .i64] es2], .int .i64 id], [] => spW (vev7_1 l es es2 id) (some ((true, AV.int IntKind.i64 (vev7_0 l es es2 id), [])))
  | _, _ => none
noncomputable def k7 : Gam := fun f T C => match Nat.beq f 7 with
  | true => (sp7 T C).or (k9 f T C)
  | false => k9 f T C
theorem k7_ok : GamOK Try.prog k7 := by
  intro f T C r outs h
  unfold k7 at h
  cases hf : Nat.beq f 7 with
  | false => rw [hf] at h; exact k9_ok f T C r outs h
  | true =>
    have hf' := Nat.eq_of_beq_eq_true hf
    subst hf'
    rw [hf] at h
    dsimp only at h
    cases hs : sp7 T C with
    | none => rw [hs] at h; exact k9_ok _ T C r outs h
    | some x =>
      rw [hs] at h
      have hx : x = (true, r, outs) := by simpa using h
      subst hx
      unfold sp7 at hs
      split at hs
      · rename_i l es es2 id
        obtain ⟨hb, rfl, rfl⟩ := spT_inv hs
        have he := ev7 l es es2 id
        rw [hb, cond_true] at he
        obtain ⟨r0, o0, h0, he⟩ := evFin_inv he
        obtain ⟨h1, h2⟩ := fn_ok mixed plain (gk_ok k9_ok 30) Try.func7 loops7 h0
        exact ⟨h1, h2.fin he⟩
      · cases hs
end Go.Proofs.Gv
