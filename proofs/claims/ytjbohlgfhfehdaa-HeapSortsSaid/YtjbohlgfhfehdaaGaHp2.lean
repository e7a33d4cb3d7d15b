import Derived.Test.YtjbohlgfhfehdaaGt
import Derived.KernelRfl
import Derived.Test.YtjbohlgfhfehdaaGwF
import Derived.Test.YtjbohlgfhfehdaaGxJ
import Derived.Test.YtjbohlgfhfehdaaGaHp
namespace Go.Proofs.Gv
open Go.Proofs
set_option linter.unusedVariables false
theorem aw6 : gk k0 30 6 [] [] = some (true, .bool true, []) := by kernel_rfl
noncomputable def k6 : Gam := fun f T C => match Nat.beq f 6, T, C with
  | true, [], [] => some (true, .bool true, [])
  | _, T, C => k30 f T C
theorem k6_ok : GamOK Try.prog k6 := by
  intro f T C r outs h
  unfold k6 at h
  split at h
  · rename_i hf
    have hf' := Nat.eq_of_beq_eq_true hf
    subst hf'
    have hx : (true, AV.bool true, ([] : List Blk)) = (true, r, outs) := by simpa using h
    injection hx with _ hx
    injection hx with h1 h2
    subst h1 h2
    exact gk_ok k0_ok 30 6 [] [] _ _ aw6
  · exact k30_ok _ _ _ r outs h
noncomputable def rev32_0 (es : List (List AV)) (i : Int) : Int := IntKind.i64.wrap ((↑es.length : Int) - (1 : Int))
noncomputable def rev32_1 (es : List (List AV)) (i : Int) : List (List AV) := es.set i.toNat (over (fitRow [Kd.int IntKind.i64, Kd.int IntKind.i64] (es.getD i.toNat [])) (0 : Nat) (List.take (2 : Nat) (List.drop (0 : Nat) (fitRow [Kd.int IntKind.i64, Kd.int IntKind.i64] (es.getD (rev32_0 es i).toNat [])))))
noncomputable def rev32_2 (es : List (List AV)) (i : Int) : Int := (↑(rev32_1 es i).length : Int)
noncomputable def rev32_3 (es : List (List AV)) (i : Int) : List (List AV) := vev25s_0 (rev32_1 es i) (rev32_0 es i).toNat (rev32_1 es i).length i
noncomputable def vev32_0 (es : List (List AV)) (i : Int) : List (List AV) := bif decide (i < rev32_0 es i) then vev31s_0 (rev32_3 es i) (rev32_0 es i).toNat (rev32_1 es i).length i else es.set i.toNat [AV.int IntKind.i64 (intOf ((es.getD (rev32_0 es i).toNat []).getD (0 : Nat) AV.junk)), AV.int IntKind.i64 (intOf ((es.getD (rev32_0 es i).toNat []).getD ((0 : Nat) + (1 : Nat)) AV.junk))]
noncomputable def vev32_1 (es : List (List AV)) (i : Int) : Bool := bif decide ((0 : Int) ≤ rev32_0 es i) && decide (rev32_0 es i < (↑es.length : Int)) then bif decide ((0 : Int) ≤ i) && decide (i < (↑es.length : Int)) then bif bif decide ((0 : Int) ≤ (0 : Int)) && decide ((0 : Int) ≤ rev32_0 es i) then decide (rev32_0 es i ≤ rev32_2 es i) else false then bif decide (i < rev32_0 es i) then bif vev25s_1 (rev32_1 es i) (rev32_0 es i).toNat (rev32_1 es i).length i then bif vev31s_1 (rev32_3 es i) (rev32_0 es i).toNat (rev32_1 es i).length i then true else false else false else true else false else false else false
theorem ev32 (es : List (List AV)) (i : Int) : evFin (cfg Try.prog tab 100000 (gk k6 30) noLsp 32 ([.row [.int .i64, .int .i64] es] : List Blk).length Try.f32.ntmps) ([.row [.int .i64, .int .i64] es] : List Blk).length Try.f32.resultTypes.toList Try.f32 [.rf 0 [.int .i64, .int .i64], .int .i64 i] [.row [.int .i64, .int .i64] es] = bif vev32_1 es i then some (true, AV.rs (nat_lit 0) [Kd.int IntKind.i64, Kd.int IntKind.i64] (nat_lit 0) (rev32_0 es i).toNat (rev32_1 es i).length, [Blk.row [Kd.int IntKind.i64, Kd.int IntKind.i64] (vev32_0 es i)]) else none := by
  have h : evFin (cfg Try.prog tab 100000 (gk k6 30) noLsp 32 ([.row [.int .i64, .int .i64] es] : List Blk).length Try.f32.ntmps) ([.row [.int .i64, .int .i64] es] : List Blk).length Try.f32.resultTypes.toList Try.f32 [.rf 0 [.int .i64, .int .i64], .int .i64 i] [.row [.int .i64, .int .i64] es] = bif decide ((0 : Int) ≤ rev32_0 es i) && decide (rev32_0 es i < (↑es.length : Int)) then bif decide ((0 : Int) ≤ i) && decide (i < (↑es.length : Int)) then bif bif decide ((0 : Int) ≤ (0 : Int)) && decide ((0 : Int) ≤ rev32_0 es i) then decide (rev32_0 es i ≤ rev32_2 es i) else false then bif decide (i < rev32_0 es i) then bif vev25s_1 (rev32_1 es i) (rev32_0 es i).toNat (rev32_1 es i).length i then bif vev31s_1 (rev32_3 es i) (rev32_0 es i).toNat (rev32_1 es i).length i then some (true, AV.rs (nat_lit 0) [Kd.int IntKind.i64, Kd.int IntKind.i64] (nat_lit 0) (rev32_0 es i).toNat (rev32_1 es i).length, [Blk.row [Kd.int IntKind.i64, Kd.int IntKind.i64] (vev31s_0 (rev32_3 es i) (rev32_0 es i).toNat (rev32_1 es i).length i)]) else none else none else some (true, AV.rs (nat_lit 0) [Kd.int IntKind.i64, Kd.int IntKind.i64] (nat_lit 0) (rev32_0 es i).toNat (rev32_1 es i).length, [Blk.row [Kd.int IntKind.i64, Kd.int IntKind.i64] (es.set i.toNat [AV.int IntKind.i64 (intOf ((es.getD (rev32_0 es i).toNat []).getD (0 : Nat) AV.junk)), AV.int IntKind.i64 (intOf ((es.getD (rev32_0 es i).toNat []).getD ((0 : Nat) + (1 : Nat)) AV.junk))])]) else none else none else none := by kernel_rfl
  rw [h]
  clear h
  unfold vev32_0 vev32_1
  generalize (decide ((0 : Int) ≤ (0 : Int)) && decide ((0 : Int) ≤ rev32_0 es i)) = c0
  generalize (decide ((0 : Int) ≤ rev32_0 es i) && decide (rev32_0 es i < (↑es.length : Int))) = c1
  generalize (decide ((0 : Int) ≤ i) && decide (i < (↑es.length : Int))) = c2
  generalize (decide (rev32_0 es i ≤ rev32_2 es i)) = c3
  generalize (vev31s_1 (rev32_3 es i) (rev32_0 es i).toNat (rev32_1 es i).length i) = c4
  generalize (vev25s_1 (rev32_1 es i) (rev32_0 es i).toNat (rev32_1 es i).length i) = c5
  generalize (decide (i < rev32_0 es i)) = c6
  cases c1
  · skip
    rfl
  · skip
    cases c2
    · skip
      rfl
    · skip
      cases c0
      · skip
        rfl
      · skip
        cases c3
        · skip
          rfl
        · skip
          cases c6
          · skip
            rfl
          · skip
            cases c5
            · skip
              rfl
            · skip
              cases c4
              · skip
                rfl
              · skip
                rfl
-- spec vev32_1 es i ;; (true, AV.rs (nat_lit 0) [Kd.int IntKind.i64, Kd.int IntKind.i64] (nat_lit 0) (rev32_0 es i).toNat (rev32_1 es i).length, [Blk.row [Kd.int IntKind.i64, Kd.int IntKind.i64] (vev32_0 es i)])
noncomputable def sp32 : List AV → List Blk → Option (Bool × AV × List Blk)
  | [.rf 0 [.int .i64, .int .i64], .int .i64 i], [.row [.int .i64, .int .i64] es] => spW (vev32_1 es i) (some ((true, AV.rs (nat_lit 0) [Kd.int IntKind.i64, Kd.int IntKind.i64] (nat_lit 0) (rev32_0 es i).toNat (rev32_1 es i).length, [Blk.row [Kd.int IntKind.i64, Kd.int IntKind.i64] (vev32_0 es i)])))
  | _, _ => none
noncomputable def k32 : Gam := fun f T C => match Nat.beq f 32 with
  | true => (sp32 T C).or (k6 f T C)
  | false => k6 f T C
theorem k32_ok : GamOK Try.prog k32 := by
  intro f T C r outs h
  unfold k32 at h
  cases hf : Nat.beq f 32 with
  | false => rw [hf] at h; exact k6_ok f T C r outs h
  | true =>
    have hf' := Nat.eq_of_beq_eq_true hf
    subst hf'
    rw [hf] at h
    dsimp only at h
    cases hs : sp32 T C with
    | none => rw [hs] at h; exact k6_ok _ T C r outs h
    | some x =>
      rw [hs] at h
      have hx : x = (true, r, outs) := by simpa using h
      subst hx
      unfold sp32 at hs
      split at hs
      · rename_i i es
        obtain ⟨hb, rfl, rfl⟩ := spT_inv hs
        have he := ev32 es i
        rw [hb, cond_true] at he
        obtain ⟨r0, o0, h0, he⟩ := evFin_inv he
        obtain ⟨h1, h2⟩ := fn_ok mixed plain (gk_ok k6_ok 30) Try.func32 (fun c _ => LoopsOK.none (fun _ _ => rfl) c) h0
        exact ⟨h1, h2.fin he⟩
      · cases hs
noncomputable def vev37_0 (a : Int) (b : Int) (id : Int) : Bool := b == id
theorem ev37 (a : Int) (b : Int) (id : Int) : evFin (cfg Try.prog tab 100000 (gk k32 30) noLsp 37 ([.var [.int .i64 id]] : List Blk).length Try.f37.ntmps) ([.var [.int .i64 id]] : List Blk).length Try.f37.resultTypes.toList Try.f37 [.agg [.int .i64 a, .int .i64 b], .hp 0 0] [.var [.int .i64 id]] = some (true, AV.bool (vev37_0 a b id), [Blk.var [AV.int IntKind.i64 id]]) := by kernel_rfl
-- spec true ;; (true, AV.bool (vev37_0 a b id), [Blk.var [AV.int IntKind.i64 id]])
noncomputable def sp37 : List AV → List Blk → Option (Bool × AV × List Blk)
  | [.agg [.int .i64 a, .int .i64 b], .hp 0 0], [.var [.int .i64 id]] => spW (true) (some ((true, AV.bool (vev37_0 a b id), [Blk.var [AV.int IntKind.i64 id]])))
  | _, _ => none
noncomputable def k37 : Gam := fun f T C => match Nat.beq f 37 with
  | true => (sp37 T C).or (k32 f T C)
  | false => k32 f T C
theorem k37_ok : GamOK Try.prog k37 := by
  intro f T C r outs h
  unfold k37 at h
  cases hf : Nat.beq f 37 with
  | false => rw [hf] at h; exact k32_ok f T C r outs h
  | true =>
    have hf' := Nat.eq_of_beq_eq_true hf
    subst hf'
    rw [hf] at h
    dsimp only at h
    cases hs : sp37 T C with
    | none => rw [hs] at h; exact k32_ok _ T C r outs h
    | some x =>
      rw [hs] at h
      have hx : x = (true, r, outs) := by simpa using h
      subst hx
      unfold sp37 at hs
      split at hs
      · rename_i a b id
        obtain ⟨hb, rfl, rfl⟩ := spT_inv hs
        have he := ev37 a b id
        obtain ⟨r0, o0, h0, he⟩ := evFin_inv he
        obtain ⟨h1, h2⟩ := fn_ok mixed plain (gk_ok k32_ok 30) Try.func37 (fun c _ => LoopsOK.none (fun _ _ => rfl) c) h0
        exact ⟨h1, h2.fin he⟩
      · cases hs
noncomputable def go36_2 (t0k : Tk) (t0 : List (List AV)) (t7 : Int) (t8 : Int) (b0_0 : Int) : Bool := bif decide (t8 < t7) then bif decide ((0 : Int) ≤ t8) && decide (t8 < (↑t0.length : Int)) then bif vev37_0 (intOf ((t0.getD t8.toNat []).getD (0 : Nat) AV.junk)) (intOf ((t0.getD t8.toNat []).getD ((0 : Nat) + (1 : Nat)) AV.junk)) b0_0 then false else true else false else false
noncomputable def nx36_2_3 (t0k : Tk) (t0 : List (List AV)) (t7 : Int) (t8 : Int) (b0_0 : Int) : Int := IntKind.i64.wrap (t8 + (1 : Int))
noncomputable def xc36_2_0 (t0k : Tk) (t0 : List (List AV)) (t7 : Int) (t8 : Int) (b0_0 : Int) : Bool := bif decide (t8 < t7) then bif decide ((0 : Int) ≤ t8) && decide (t8 < (↑t0.length : Int)) then vev37_0 (intOf ((t0.getD t8.toNat []).getD (0 : Nat) AV.junk)) (intOf ((t0.getD t8.toNat []).getD ((0 : Nat) + (1 : Nat)) AV.junk)) b0_0 else false else false
noncomputable def xc36_2_1 (t0k : Tk) (t0 : List (List AV)) (t7 : Int) (t8 : Int) (b0_0 : Int) : Bool := bif decide (t8 < t7) then false else true
theorem rd36_2 (rest : Lsp) (t0k : Tk) (t0 : List (List AV)) (t7 : Int) (t8 : Int) (b0_0 : Int) : roundV (cfg Try.prog tab 100000 (gk k37 30) rest 36 1 Try.f36.ntmps) (loopAt Try.f36 2) [0, 1, 7, 8] [0] [4] [0] [AV.sl t0k [Kd.int IntKind.i64, Kd.int IntKind.i64] t0, AV.fn (nat_lit 37) [AV.hp (nat_lit 0) (nat_lit 0)], AV.int IntKind.i64 t7, AV.int IntKind.i64 t8] [Blk.var [AV.int IntKind.i64 b0_0]] = bif go36_2 t0k t0 t7 t8 b0_0 then some (Ex.norm, [AV.sl t0k [Kd.int IntKind.i64, Kd.int IntKind.i64] t0, AV.fn (nat_lit 37) [AV.hp (nat_lit 0) (nat_lit 0)], AV.int IntKind.i64 t7, AV.int IntKind.i64 (nx36_2_3 t0k t0 t7 t8 b0_0)], [Blk.var [AV.int IntKind.i64 b0_0]]) else bif xc36_2_0 t0k t0 t7 t8 b0_0 then some (Ex.ret, [AV.int IntKind.i64 t8], [Blk.var [AV.int IntKind.i64 b0_0]]) else bif xc36_2_1 t0k t0 t7 t8 b0_0 then some (Ex.exit (nat_lit 0), [AV.junk], [Blk.var [AV.int IntKind.i64 b0_0]]) else none := by
  have h : roundV (cfg Try.prog tab 100000 (gk k37 30) rest 36 1 Try.f36.ntmps) (loopAt Try.f36 2) [0, 1, 7, 8] [0] [4] [0] [AV.sl t0k [Kd.int IntKind.i64, Kd.int IntKind.i64] t0, AV.fn (nat_lit 37) [AV.hp (nat_lit 0) (nat_lit 0)], AV.int IntKind.i64 t7, AV.int IntKind.i64 t8] [Blk.var [AV.int IntKind.i64 b0_0]] = bif decide (t8 < t7) then bif decide ((0 : Int) ≤ t8) && decide (t8 < (↑t0.length : Int)) then bif vev37_0 (intOf ((t0.getD t8.toNat []).getD (0 : Nat) AV.junk)) (intOf ((t0.getD t8.toNat []).getD ((0 : Nat) + (1 : Nat)) AV.junk)) b0_0 then some (Ex.ret, [AV.int IntKind.i64 t8], [Blk.var [AV.int IntKind.i64 b0_0]]) else some (Ex.norm, [AV.sl t0k [Kd.int IntKind.i64, Kd.int IntKind.i64] t0, AV.fn (nat_lit 37) [AV.hp (nat_lit 0) (nat_lit 0)], AV.int IntKind.i64 t7, AV.int IntKind.i64 (IntKind.i64.wrap (t8 + (1 : Int)))], [Blk.var [AV.int IntKind.i64 b0_0]]) else none else some (Ex.exit (nat_lit 0), [AV.junk], [Blk.var [AV.int IntKind.i64 b0_0]]) := by kernel_rfl
  rw [h]
  clear h
  unfold go36_2 nx36_2_3 xc36_2_0 xc36_2_1
  generalize (vev37_0 (intOf ((t0.getD t8.toNat []).getD (0 : Nat) AV.junk)) (intOf ((t0.getD t8.toNat []).getD ((0 : Nat) + (1 : Nat)) AV.junk)) b0_0) = c0
  generalize (decide ((0 : Int) ≤ t8) && decide (t8 < (↑t0.length : Int))) = c1
  generalize (decide (t8 < t7)) = c2
  cases c2
  · skip
    rfl
  · skip
    cases c1
    · skip
      rfl
    · skip
      cases c0
      · skip
        rfl
      · skip
        rfl
abbrev pl36_2 : Type := Tk × (List (List AV)) × Int × Int
abbrev sl36_2 : Type := Int
noncomputable def vt36_2 (a : pl36_2 × sl36_2) : List AV := [AV.sl a.1.1 [Kd.int IntKind.i64, Kd.int IntKind.i64] a.1.2.1, AV.fn (nat_lit 37) [AV.hp (nat_lit 0) (nat_lit 0)], AV.int IntKind.i64 a.1.2.2.1, AV.int IntKind.i64 a.2]
noncomputable def vc36_2 (a : pl36_2 × sl36_2) : List Blk := [Blk.var [AV.int IntKind.i64 a.1.2.2.2]]
noncomputable def de36_2 (vt : List AV) (vc : List Blk) : Option (pl36_2 × sl36_2) :=
  match vt with
  | [qa0, qa1, qa2, qa3] => (match vc with
  | [qb0] => (match qa0 with
  | AV.sl t0k [Kd.int IntKind.i64, Kd.int IntKind.i64] t0 => (match qa1 with
  | AV.fn (37) [AV.hp (0) (0)] => (match qa2 with
  | AV.int IntKind.i64 t7 => (match qa3 with
  | AV.int IntKind.i64 t8 => (match qb0 with
  | Blk.var [AV.int IntKind.i64 b0_0] => (some ((t0k, t0, t7, b0_0), t8))
  | _ => none)
  | _ => none)
  | _ => none)
  | _ => none)
  | _ => none)
  | _ => none)
  | _ => none
theorem de36_2_ok (vt : List AV) (vc : List Blk) (a : pl36_2 × sl36_2) (h : de36_2 vt vc = some a) : vt = vt36_2 a ∧ vc = vc36_2 a := by
  unfold de36_2 at h
  split at h
  rotate_left
  · cases h
  split at h
  rotate_left
  · cases h
  split at h
  rotate_left
  · cases h
  split at h
  rotate_left
  · cases h
  split at h
  rotate_left
  · cases h
  split at h
  rotate_left
  · cases h
  split at h
  rotate_left
  · cases h
  injection h with h
  subst h
  exact ⟨rfl, rfl⟩
noncomputable def g36_2 (p : pl36_2) (s : sl36_2) : Bool := go36_2 p.1 p.2.1 p.2.2.1 s p.2.2.2
noncomputable def n36_2 (p : pl36_2) (s : sl36_2) : sl36_2 := nx36_2_3 p.1 p.2.1 p.2.2.1 s p.2.2.2
noncomputable def y36_2 (p : pl36_2) (s : sl36_2) : List (Bool × Out) := [(xc36_2_0 p.1 p.2.1 p.2.2.1 s p.2.2.2, (Ex.ret, [AV.int IntKind.i64 s], [Blk.var [AV.int IntKind.i64 p.2.2.2]]))]
noncomputable def z36_2 (p : pl36_2) (s : sl36_2) : Bool := xc36_2_1 p.1 p.2.1 p.2.2.1 s p.2.2.2
noncomputable def d36_2 (p : pl36_2) (s : sl36_2) : Out := (Ex.exit (nat_lit 0), [AV.junk], [Blk.var [AV.int IntKind.i64 p.2.2.2]])
noncomputable def ls36_2 : St → Option (Bool × List (Bool × Ex × St) × Ex × St) := lspOf [0, 1, 7, 8] [0] [4] [0] Try.f36.ntmps (1 + tab.nid 36) de36_2 (spI g36_2 n36_2 y36_2 z36_2 d36_2)
theorem lo36_2 (rest : Lsp) : LoopOK1 (cfg Try.prog tab 100000 (gk k37 30) (selL 2 ls36_2 rest) 36 1 Try.f36.ntmps) (loopAt Try.f36 2) := LoopOK1.iter (i := 2) (by kernel_rfl) [0, 1, 7, 8] [0] [4] [0] vt36_2 vc36_2 de36_2 g36_2 n36_2 y36_2 z36_2 d36_2 (fun _ => rfl) de36_2_ok (fun p s => rd36_2 (selL 2 ls36_2 rest) (p.1) (p.2.1) (p.2.2.1) s (p.2.2.2)) (fun _ _ => rfl)
noncomputable def lsp36 : Lsp := (selL 2 ls36_2 noLsp)
theorem loops36 : ∀ c, Try.f36.body = some c → LoopsOK (cfg Try.prog tab 100000 (gk k37 30) lsp36 36 1 Try.f36.ntmps) c := loops_of [2] (by kernel_rfl) (by kernel_rfl) (fun i hi => by
  simp only [List.mem_cons, List.not_mem_nil, or_false] at hi
  subst hi
  · exact lo36_2 noLsp)
noncomputable def rev36_0 (tk : Tk) (es : List (List AV)) (id : Int) : sl36_2 := finL (g36_2 (tk, es, (↑es.length : Int), id)) (n36_2 (tk, es, (↑es.length : Int), id)) (0 : Int)
noncomputable def vev36_0 (tk : Tk) (es : List (List AV)) (id : Int) : sl36_2 := bif xc36_2_0 tk es (↑es.length : Int) (rev36_0 tk es id) id then rev36_0 tk es id else (-1 : Int)
noncomputable def vev36_1 (tk : Tk) (es : List (List AV)) (id : Int) : Bool := bif (spI g36_2 n36_2 y36_2 z36_2 d36_2 ((tk, es, (↑es.length : Int), id), (0 : Int))).fst then true else false
theorem ev36 (tk : Tk) (es : List (List AV)) (id : Int) : evFin (cfg Try.prog tab 100000 (gk k37 30) lsp36 36 ([.var [.int .i64 id]] : List Blk).length Try.f36.ntmps) ([.var [.int .i64 id]] : List Blk).length Try.f36.resultTypes.toList Try.f36 [.sl tk [.int .i64, .int .i64] es, .fn 37 [.hp 0 0]] [.var [.int .i64 id]] = bif vev36_1 tk es id then some (true, AV.int IntKind.i64 (vev36_0 tk es id), [Blk.var [AV.int IntKind.i64 id]]) else none := by
  have h : evFin (cfg Try.prog tab 100000 (gk k37 30) lsp36 36 ([.var [.int .i64 id]] : List Blk).length Try.f36.ntmps) ([.var [.int .i64 id]] : List Blk).length Try.f36.resultTypes.toList Try.f36 [.sl tk [.int .i64, .int .i64] es, .fn 37 [.hp 0 0]] [.var [.int .i64 id]] = bif (spI g36_2 n36_2 y36_2 z36_2 d36_2 ((tk, es, (↑es.length : Int), id), (0 : Int))).fst then bif xc36_2_0 tk es (↑es.length : Int) (rev36_0 tk es id) id then some (true, AV.int IntKind.i64 (rev36_0 tk es id), [Blk.var [AV.int IntKind.i64 id]]) else some (true, AV.int IntKind.i64 (-1 : Int), [Blk.var [AV.int IntKind.i64 id]]) else none := by kernel_rfl
  rw [h]
  clear h
  unfold vev36_0 vev36_1
  generalize ((spI g36_2 n36_2 y36_2 z36_2 d36_2 ((tk, es, (↑es.length : Int), id), (0 : Int))).fst) = c0
  generalize (xc36_2_0 tk es (↑es.length : Int) (rev36_0 tk es id) id) = c1
  cases c0
  · skip
    rfl
  · skip
    cases c1
    · skip
      rfl
    · skip
      rfl
-- spec vev36_1 tk es id ;; (true, AV.int IntKind.i64 (vev36_0 tk es id), [Blk.var [AV.int IntKind.i64 id]])
noncomputable def sp36 : List AV → List Blk → Option (Bool × AV × List Blk)
  | [.sl tk [.int .i64, .int .i64] es, .fn 37 [.hp 0 0]], [.var [.int .i64 id]] => spW (vev36_1 tk es id) (some ((true, AV.int IntKind.i64 (vev36_0 tk es id), [Blk.var [AV.int IntKind.i64 id]])))
  | _, _ => none
noncomputable def k36 : Gam := fun f T C => match Nat.beq f 36 with
  | true => (sp36 T C).or (k37 f T C)
  | false => k37 f T C
theorem k36_ok : GamOK Try.prog k36 := by
  intro f T C r outs h
  unfold k36 at h
  cases hf : Nat.beq f 36 with
  | false => rw [hf] at h; exact k37_ok f T C r outs h
  | true =>
    have hf' := Nat.eq_of_beq_eq_true hf
    subst hf'
    rw [hf] at h
    dsimp only at h
    cases hs : sp36 T C with
    | none => rw [hs] at h; exact k37_ok _ T C r outs h
    | some x =>
      rw [hs] at h
      have hx : x = (true, r, outs) := by simpa using h
      subst hx
      unfold sp36 at hs
      split at hs
      · rename_i tk es id
        obtain ⟨hb, rfl, rfl⟩ := spT_inv hs
        have he := ev36 tk es id
        rw [hb, cond_true] at he
        obtain ⟨r0, o0, h0, he⟩ := evFin_inv he
        obtain ⟨h1, h2⟩ := fn_ok mixed plain (gk_ok k37_ok 30) Try.func36 loops36 h0
        exact ⟨h1, h2.fin he⟩
      · cases hs
noncomputable def vev33_0 (tk : Tk) (es : List (List AV)) (id : Int) : Bool := bif vev36_1 tk es id then true else false
theorem ev33 (tk : Tk) (es : List (List AV)) (id : Int) : evFin (cfg Try.prog tab 100000 (gk k36 30) noLsp 33 ([] : List Blk).length Try.f33.ntmps) ([] : List Blk).length Try.f33.resultTypes.toList Try.f33 [.sl tk [.int .i64, .int .i64] es, .int .i64 id] [] = bif vev33_0 tk es id then some (true, AV.int IntKind.i64 (vev36_0 tk es id), []) else none := by
  have h : evFin (cfg Try.prog tab 100000 (gk k36 30) noLsp 33 ([] : List Blk).length Try.f33.ntmps) ([] : List Blk).length Try.f33.resultTypes.toList Try.f33 [.sl tk [.int .i64, .int .i64] es, .int .i64 id] [] = bif vev36_1 tk es id then some (true, AV.int IntKind.i64 (vev36_0 tk es id), []) else none := by kernel_rfl
  rw [h]
  clear h
  unfold vev33_0
  generalize (vev36_1 tk es id) = c0
  cases c0
  · skip
    rfl
  · skip
    rfl
-- spec vev33_0 tk es id ;; (true, AV.int IntKind.i64 (vev36_0 tk es id), [])
noncomputable def sp33 : List AV → List Blk → Option (Bool × AV × List Blk)
  | [.sl tk [.int .i64, .int .i64] es, .int .i64 id], [] => spW (vev33_0 tk es id) (some ((true, AV.int IntKind.i64 (vev36_0 tk es id), [])))
  | _, _ => none
noncomputable def k33 : Gam := fun f T C => match Nat.beq f 33 with
  | true => (sp33 T C).or (k36 f T C)
  | false => k36 f T C
theorem k33_ok : GamOK Try.prog k33 := by
  intro f T C r outs h
  unfold k33 at h
  cases hf : Nat.beq f 33 with
  | false => rw [hf] at h; exact k36_ok f T C r outs h
  | true =>
    have hf' := Nat.eq_of_beq_eq_true hf
    subst hf'
    rw [hf] at h
    dsimp only at h
    cases hs : sp33 T C with
    | none => rw [hs] at h; exact k36_ok _ T C r outs h
    | some x =>
      rw [hs] at h
      have hx : x = (true, r, outs) := by simpa using h
      subst hx
      unfold sp33 at hs
      split at hs
      · rename_i tk es id
        obtain ⟨hb, rfl, rfl⟩ := spT_inv hs
        have he := ev33 tk es id
        rw [hb, cond_true] at he
        obtain ⟨r0, o0, h0, he⟩ := evFin_inv he
        obtain ⟨h1, h2⟩ := fn_ok mixed plain (gk_ok k36_ok 30) Try.func33 (fun c _ => LoopsOK.none (fun _ _ => rfl) c) h0
        exact ⟨h1, h2.fin he⟩
      · cases hs
noncomputable def rev17_0 (tk : Tk) (es : List (List AV)) (a : Int) (b : Int) : List (List AV) := [[AV.int IntKind.i64 a, AV.int IntKind.i64 b]]
noncomputable def rev17_1 (tk : Tk) (es : List (List AV)) (a : Int) (b : Int) : List (List AV) := vev30_0 tk es ++ rev17_0 tk es a b
noncomputable def rev17_2 (tk : Tk) (es : List (List AV)) (a : Int) (b : Int) : Int := IntKind.i64.wrap ((↑(rev17_1 tk es a b).length : Int) - (1 : Int))
noncomputable def vev17_0 (tk : Tk) (es : List (List AV)) (a : Int) (b : Int) : List (List AV) := vev31_0 (rev17_1 tk es a b) (rev17_2 tk es a b)
noncomputable def vev17_1 (tk : Tk) (es : List (List AV)) (a : Int) (b : Int) : Bool := bif vev30_1 tk es then bif bif decide (((vev30_0 tk es).length + (rev17_0 tk es a b).length) * (16 : Nat) ≤ (140737488355328 : Nat)) then decide ((vev30_0 tk es).length + (rev17_0 tk es a b).length ≤ (9223372036854775807 : Nat)) else false then bif vev31_1 (rev17_1 tk es a b) (rev17_2 tk es a b) then true else false else false else false
theorem ev17 (tk : Tk) (es : List (List AV)) (a : Int) (b : Int) : evFin (cfg Try.prog tab 100000 (gk k33 30) noLsp 17 ([] : List Blk).length Try.f17.ntmps) ([] : List Blk).length Try.f17.resultTypes.toList Try.f17 [.sl tk [.int .i64, .int .i64] es, .agg [.int .i64 a, .int .i64 b]] [] = bif vev17_1 tk es a b then some (true, AV.sl Tk.imm [Kd.int IntKind.i64, Kd.int IntKind.i64] (vev17_0 tk es a b), []) else none := by
  have h : evFin (cfg Try.prog tab 100000 (gk k33 30) noLsp 17 ([] : List Blk).length Try.f17.ntmps) ([] : List Blk).length Try.f17.resultTypes.toList Try.f17 [.sl tk [.int .i64, .int .i64] es, .agg [.int .i64 a, .int .i64 b]] [] = bif vev30_1 tk es then bif bif decide (((vev30_0 tk es).length + (rev17_0 tk es a b).length) * (16 : Nat) ≤ (140737488355328 : Nat)) then decide ((vev30_0 tk es).length + (rev17_0 tk es a b).length ≤ (9223372036854775807 : Nat)) else false then bif vev31_1 (rev17_1 tk es a b) (rev17_2 tk es a b) then some (true, AV.sl Tk.imm [Kd.int IntKind.i64, Kd.int IntKind.i64] (vev31_0 (rev17_1 tk es a b) (rev17_2 tk es a b)), []) else none else none else none := by kernel_rfl
  rw [h]
  clear h
  unfold vev17_0 vev17_1
  generalize (decide (((vev30_0 tk es).length + (rev17_0 tk es a b).length) * (16 : Nat) ≤ (140737488355328 : Nat))) = c0
  generalize (decide ((vev30_0 tk es).length + (rev17_0 tk es a b).length ≤ (9223372036854775807 : Nat))) = c1
  generalize (vev31_1 (rev17_1 tk es a b) (rev17_2 tk es a b)) = c2
  generalize (vev30_1 tk es) = c3
  cases c3
  · skip
    rfl
  · skip
    cases c0
    · skip
      rfl
    · skip
      cases c1
      · skip
        rfl
      · skip
        cases c2
        · skip
          rfl
        · skip
          rfl
-- spec vev17_1 tk es a b ;; (true, AV.sl Tk.imm [Kd.int IntKind.i64, Kd.int IntKind.i64] (vev17_0 tk es a b), [])
noncomputable def sp17 : List AV → List Blk → Option (Bool × AV × List Blk)
  | [.sl tk [.int .i64, .int .i64] es, .agg [.int .i64 a, .int .i64 b]], [] => spW (vev17_1 tk es a b) (some ((true, AV.sl Tk.imm [Kd.int IntKind.i64, Kd.int IntKind.i64] (vev17_0 tk es a b), [])))
  | _, _ => none
noncomputable def k17 : Gam := fun f T C => match Nat.beq f 17 with
  | true => (sp17 T C).or (k33 f T C)
  | false => k33 f T C
theorem k17_ok : GamOK Try.prog k17 := by
  intro f T C r outs h
  unfold k17 at h
  cases hf : Nat.beq f 17 with
  | false => rw [hf] at h; exact k33_ok f T C r outs h
  | true =>
    have hf' := Nat.eq_of_beq_eq_true hf
    subst hf'
    rw [hf] at h
    dsimp only at h
    cases hs : sp17 T C with
    | none => rw [hs] at h; exact k33_ok _ T C r outs h
    | some x =>
      rw [hs] at h
      have hx : x = (true, r, outs) := by simpa using h
      subst hx
      unfold sp17 at hs
      split at hs
      · rename_i tk es a b
        obtain ⟨hb, rfl, rfl⟩ := spT_inv hs
        have he := ev17 tk es a b
        rw [hb, cond_true] at he
        obtain ⟨r0, o0, h0, he⟩ := evFin_inv he
        obtain ⟨h1, h2⟩ := fn_ok mixed plain (gk_ok k33_ok 30) Try.func17 (fun c _ => LoopsOK.none (fun _ _ => rfl) c) h0
        exact ⟨h1, h2.fin he⟩
      · cases hs
noncomputable def rev18_0 (tk : Tk) (es : List (List AV)) : Int := (↑(vev30_0 tk es).length : Int)
noncomputable def vev18_0 (tk : Tk) (es : List (List AV)) : List (List AV) := bif (↑es.length : Int) == (0 : Int) then [] else List.take (rev32_0 (vev30_0 tk es) (0 : Int)).toNat (List.drop (nat_lit 0) (vev32_0 (vev30_0 tk es) (0 : Int)))
noncomputable def vev18_1 (tk : Tk) (es : List (List AV)) : Int := bif (↑es.length : Int) == (0 : Int) then (0 : Int) else intOf (((vev30_0 tk es).getD (Int.toNat (0 : Int)) []).getD (0 : Nat) AV.junk)
noncomputable def vev18_2 (tk : Tk) (es : List (List AV)) : Int := bif (↑es.length : Int) == (0 : Int) then (0 : Int) else intOf (((vev30_0 tk es).getD (Int.toNat (0 : Int)) []).getD ((0 : Nat) + (1 : Nat)) AV.junk)
noncomputable def vev18_3 (tk : Tk) (es : List (List AV)) : Bool := bif (↑es.length : Int) == (0 : Int) then false else true
noncomputable def vev18_4 (tk : Tk) (es : List (List AV)) : Bool := bif (↑es.length : Int) == (0 : Int) then true else bif vev30_1 tk es then bif decide ((0 : Int) ≤ (0 : Int)) && decide ((0 : Int) < rev18_0 tk es) then bif vev32_1 (vev30_0 tk es) (0 : Int) then true else false else false else false
theorem ev18 (tk : Tk) (es : List (List AV)) : evFin (cfg Try.prog tab 100000 (gk k17 30) noLsp 18 ([] : List Blk).length Try.f18.ntmps) ([] : List Blk).length Try.f18.resultTypes.toList Try.f18 [.sl tk [.int .i64, .int .i64] es] [] = bif vev18_4 tk es then some (true, AV.tup [AV.sl Tk.imm [Kd.int IntKind.i64, Kd.int IntKind.i64] (vev18_0 tk es), AV.agg [AV.int IntKind.i64 (vev18_1 tk es), AV.int IntKind.i64 (vev18_2 tk es)], AV.bool (vev18_3 tk es)], []) else none := by
  have h : evFin (cfg Try.prog tab 100000 (gk k17 30) noLsp 18 ([] : List Blk).length Try.f18.ntmps) ([] : List Blk).length Try.f18.resultTypes.toList Try.f18 [.sl tk [.int .i64, .int .i64] es] [] = bif (↑es.length : Int) == (0 : Int) then some (true, AV.tup [AV.sl Tk.imm [Kd.int IntKind.i64, Kd.int IntKind.i64] [], AV.agg [AV.int IntKind.i64 (0 : Int), AV.int IntKind.i64 (0 : Int)], AV.bool false], []) else bif vev30_1 tk es then bif decide ((0 : Int) ≤ (0 : Int)) && decide ((0 : Int) < rev18_0 tk es) then bif vev32_1 (vev30_0 tk es) (0 : Int) then some (true, AV.tup [AV.sl Tk.imm [Kd.int IntKind.i64, Kd.int IntKind.i64] (List.take (rev32_0 (vev30_0 tk es) (0 : Int)).toNat (List.drop (nat_lit 0) (vev32_0 (vev30_0 tk es) (0 : Int)))), AV.agg [AV.int IntKind.i64 (intOf (((vev30_0 tk es).getD (Int.toNat (0 : Int)) []).getD (0 : Nat) AV.junk)), AV.int IntKind.i64 (intOf (((vev30_0 tk es).getD (Int.toNat (0 : Int)) []).getD ((0 : Nat) + (1 : Nat)) AV.junk))], AV.bool true], []) else none else none else none := by kernel_rfl
  rw [h]
  clear h
  unfold vev18_0 vev18_1 vev18_2 vev18_3 vev18_4
  generalize (decide ((0 : Int) ≤ (0 : Int)) && decide ((0 : Int) < rev18_0 tk es)) = c0
  generalize ((↑es.length : Int) == (0 : Int)) = c1
  generalize (vev32_1 (vev30_0 tk es) (0 : Int)) = c2
  generalize (vev30_1 tk es) = c3
  cases c1
  · skip
    cases c3
    · skip
      rfl
    · skip
      cases c0
      · skip
        rfl
      · skip
        cases c2
        · skip
          rfl
        · skip
          rfl
  · skip
    rfl
-- spec vev18_4 tk es ;; (true, AV.tup [AV.sl Tk.imm [Kd.int IntKind.i64, Kd.int IntKind.i64] (vev18_0 tk es), AV.agg [AV.int IntKind.i64 (vev18_1 tk es), AV.int IntKind.i64 (vev18_2 tk es)], AV.bool (vev18_3 tk es)], [])
noncomputable def sp18 : List AV → List Blk → Option (Bool × AV × List Blk)
  | [.sl tk [.int .i64, .int .i64] es], [] => spW (vev18_4 tk es) (some ((true, AV.tup [AV.sl Tk.imm [Kd.int IntKind.i64, Kd.int IntKind.i64] (vev18_0 tk es), AV.agg [AV.int IntKind.i64 (vev18_1 tk es), AV.int IntKind.i64 (vev18_2 tk es)], AV.bool (vev18_3 tk es)], [])))
  | _, _ => none
noncomputable def k18 : Gam := fun f T C => match Nat.beq f 18 with
  | true => (sp18 T C).or (k17 f T C)
  | false => k17 f T C
theorem k18_ok : GamOK Try.prog k18 := by
  intro f T C r outs h
  unfold k18 at h
  cases hf : Nat.beq f 18 with
  | false => rw [hf] at h; exact k17_ok f T C r outs h
  | true =>
    have hf' := Nat.eq_of_beq_eq_true hf
    subst hf'
    rw [hf] at h
    dsimp only at h
    cases hs : sp18 T C with
    | none => rw [hs] at h; exact k17_ok _ T C r outs h
    | some x =>
      rw [hs] at h
      have hx : x = (true, r, outs) := by simpa using h
      subst hx
      unfold sp18 at hs
      split at hs
      · rename_i tk es
        obtain ⟨hb, rfl, rfl⟩ := spT_inv hs
        have he := ev18 tk es
        rw [hb, cond_true] at he
        obtain ⟨r0, o0, h0, he⟩ := evFin_inv he
        obtain ⟨h1, h2⟩ := fn_ok mixed plain (gk_ok k17_ok 30) Try.func18 (fun c _ => LoopsOK.none (fun _ _ => rfl) c) h0
        exact ⟨h1, h2.fin he⟩
      · cases hs
noncomputable def rev19_0 (tk : Tk) (es : List (List AV)) (id : Int) (k : Int) : Int := (↑(vev30_0 tk es).length : Int)
noncomputable def rev19_1 (tk : Tk) (es : List (List AV)) (id : Int) (k : Int) : List (List AV) := (vev30_0 tk es).set (Int.toNat (vev36_0 Tk.lent (vev30_0 tk es) id)) [AV.int IntKind.i64 k, AV.int IntKind.i64 (intOf (((vev30_0 tk es).getD (Int.toNat (vev36_0 Tk.lent (vev30_0 tk es) id)) []).getD ((0 : Nat) + (1 : Nat)) AV.junk))]
noncomputable def rev19_2 (tk : Tk) (es : List (List AV)) (id : Int) (k : Int) : List (List AV) := vev25_0 (rev19_1 tk es id k) (vev36_0 Tk.lent (vev30_0 tk es) id)
noncomputable def vev19_0 (tk : Tk) (es : List (List AV)) (id : Int) (k : Int) : List (List AV) := bif decide (vev36_0 Tk.lent (vev30_0 tk es) id < (0 : Int)) then vev30_0 tk es else vev31_0 (rev19_2 tk es id k) (vev36_0 Tk.lent (vev30_0 tk es) id)
noncomputable def vev19_1 (tk : Tk) (es : List (List AV)) (id : Int) (k : Int) : Bool := bif decide (vev36_0 Tk.lent (vev30_0 tk es) id < (0 : Int)) then false else true
noncomputable def vev19_2 (tk : Tk) (es : List (List AV)) (id : Int) (k : Int) : Bool := bif vev30_1 tk es then bif vev33_0 Tk.lent (vev30_0 tk es) id then bif decide (vev36_0 Tk.lent (vev30_0 tk es) id < (0 : Int)) then true else bif decide ((0 : Int) ≤ vev36_0 Tk.lent (vev30_0 tk es) id) && decide (vev36_0 Tk.lent (vev30_0 tk es) id < rev19_0 tk es id k) then bif vev25_1 (rev19_1 tk es id k) (vev36_0 Tk.lent (vev30_0 tk es) id) then bif vev31_1 (rev19_2 tk es id k) (vev36_0 Tk.lent (vev30_0 tk es) id) then true else false else false else false else false else false
theorem ev19 (tk : Tk) (es : List (List AV)) (id : Int) (k : Int) : evFin (cfg Try.prog tab 100000 (gk k18 30) noLsp 19 ([] : List Blk).length Try.f19.ntmps) ([] : List Blk).length Try.f19.resultTypes.toList Try.f19 [.sl tk [.int .i64, .int .i64] es, .int .i64 id, .int .i64 k] [] = bif vev19_2 tk es id k then some (true, AV.tup [AV.sl Tk.imm [Kd.int IntKind.i64, Kd.int IntKind.i64] (vev19_0 tk es id k), AV.bool (vev19_1 tk es id k)], []) else none := by
  have h : evFin (cfg Try.prog tab 100000 (gk k18 30) noLsp 19 ([] : List Blk).length Try.f19.ntmps) ([] : List Blk).length Try.f19.resultTypes.toList Try.f19 [.sl tk [.int .i64, .int .i64] es, .int .i64 id, .int .i64 k] [] = bif vev30_1 tk es then bif vev33_0 Tk.lent (vev30_0 tk es) id then bif decide (vev36_0 Tk.lent (vev30_0 tk es) id < (0 : Int)) then some (true, AV.tup [AV.sl Tk.imm [Kd.int IntKind.i64, Kd.int IntKind.i64] (vev30_0 tk es), AV.bool false], []) else bif decide ((0 : Int) ≤ vev36_0 Tk.lent (vev30_0 tk es) id) && decide (vev36_0 Tk.lent (vev30_0 tk es) id < rev19_0 tk es id k) then bif vev25_1 (rev19_1 tk es id k) (vev36_0 Tk.lent (vev30_0 tk es) id) then bif vev31_1 (rev19_2 tk es id k) (vev36_0 Tk.lent (vev30_0 tk es) id) then some (true, AV.tup [AV.sl Tk.imm [Kd.int IntKind.i64, Kd.int IntKind.i64] (vev31_0 (rev19_2 tk es id k) (vev36_0 Tk.lent (vev30_0 tk es) id)), AV.bool true], []) else none else none else none else none else none := by kernel_rfl
  rw [h]
  clear h
  unfold vev19_0 vev19_1 vev19_2
  generalize (decide ((0 : Int) ≤ vev36_0 Tk.lent (vev30_0 tk es) id) && decide (vev36_0 Tk.lent (vev30_0 tk es) id < rev19_0 tk es id k)) = c0
  generalize (decide (vev36_0 Tk.lent (vev30_0 tk es) id < (0 : Int))) = c1
  generalize (vev31_1 (rev19_2 tk es id k) (vev36_0 Tk.lent (vev30_0 tk es) id)) = c2
  generalize (vev25_1 (rev19_1 tk es id k) (vev36_0 Tk.lent (vev30_0 tk es) id)) = c3
  generalize (vev33_0 Tk.lent (vev30_0 tk es) id) = c4
  generalize (vev30_1 tk es) = c5
  cases c5
  · skip
    rfl
  · skip
    cases c4
    · skip
      rfl
    · skip
      cases c1
      · skip
        cases c0
        · skip
          rfl
        · skip
          cases c3
          · skip
            rfl
          · skip
            cases c2
            · skip
              rfl
            · skip
              rfl
      · skip
        rfl
-- spec vev19_2 tk es id k ;; (true, AV.tup [AV.sl Tk.imm [Kd.int IntKind.i64, Kd.int IntKind.i64] (vev19_0 tk es id k), AV.bool (vev19_1 tk es id k)], [])
noncomputable def sp19 : List AV → List Blk → Option (Bool × AV × List Blk)
  | [.sl tk [.int .i64, .int .i64] es, .int .i64 id, .int .i64 k], [] => spW (vev19_2 tk es id k) (some ((true, AV.tup [AV.sl Tk.imm [Kd.int IntKind.i64, Kd.int IntKind.i64] (vev19_0 tk es id k), AV.bool (vev19_1 tk es id k)], [])))
  | _, _ => none
noncomputable def k19 : Gam := fun f T C => match Nat.beq f 19 with
  | true => (sp19 T C).or (k18 f T C)
  | false => k18 f T C
theorem k19_ok : GamOK Try.prog k19 := by
  intro f T C r outs h
  unfold k19 at h
  cases hf : Nat.beq f 19 with
  | false => rw [hf] at h; exact k18_ok f T C r outs h
  | true =>
    have hf' := Nat.eq_of_beq_eq_true hf
    subst hf'
    rw [hf] at h
    dsimp only at h
    cases hs : sp19 T C with
    | none => rw [hs] at h; exact k18_ok _ T C r outs h
    | some x =>
      rw [hs] at h
      have hx : x = (true, r, outs) := by simpa using h
      subst hx
      unfold sp19 at hs
      split at hs
      · rename_i tk es id k
        obtain ⟨hb, rfl, rfl⟩ := spT_inv hs
        have he := ev19 tk es id k
        rw [hb, cond_true] at he
        obtain ⟨r0, o0, h0, he⟩ := evFin_inv he
        obtain ⟨h1, h2⟩ := fn_ok mixed plain (gk_ok k18_ok 30) Try.func19 (fun c _ => LoopsOK.none (fun _ _ => rfl) c) h0
        exact ⟨h1, h2.fin he⟩
      · cases hs
noncomputable def vev20_0 (tk : Tk) (es : List (List AV)) (id : Int) : List (List AV) := bif decide (vev36_0 Tk.lent (vev30_0 tk es) id < (0 : Int)) then vev30_0 tk es else List.take (rev32_0 (vev30_0 tk es) (vev36_0 Tk.lent (vev30_0 tk es) id)).toNat (List.drop (nat_lit 0) (vev32_0 (vev30_0 tk es) (vev36_0 Tk.lent (vev30_0 tk es) id)))
noncomputable def vev20_1 (tk : Tk) (es : List (List AV)) (id : Int) : Bool := bif decide (vev36_0 Tk.lent (vev30_0 tk es) id < (0 : Int)) then false else true
noncomputable def vev20_2 (tk : Tk) (es : List (List AV)) (id : Int) : Bool := bif vev30_1 tk es then bif vev33_0 Tk.lent (vev30_0 tk es) id then bif decide (vev36_0 Tk.lent (vev30_0 tk es) id < (0 : Int)) then true else bif vev32_1 (vev30_0 tk es) (vev36_0 Tk.lent (vev30_0 tk es) id) then true else false else false else false
theorem ev20 (tk : Tk) (es : List (List AV)) (id : Int) : evFin (cfg Try.prog tab 100000 (gk k19 30) noLsp 20 ([] : List Blk).length Try.f20.ntmps) ([] : List Blk).length Try.f20.resultTypes.toList Try.f20 [.sl tk [.int .i64, .int .i64] es, .int .i64 id] [] = bif vev20_2 tk es id then some (true, AV.tup [AV.sl Tk.imm [Kd.int IntKind.i64, Kd.int IntKind.i64] (vev20_0 tk es id), AV.bool (vev20_1 tk es id)], []) else none := by
  have h : evFin (cfg Try.prog tab 100000 (gk k19 30) noLsp 20 ([] : List Blk).length Try.f20.ntmps) ([] : List Blk).length Try.f20.resultTypes.toList Try.f20 [.sl tk [.int .i64, .int .i64] es, .int .i64 id] [] = bif vev30_1 tk es then bif vev33_0 Tk.lent (vev30_0 tk es) id then bif decide (vev36_0 Tk.lent (vev30_0 tk es) id < (0 : Int)) then some (true, AV.tup [AV.sl Tk.imm [Kd.int IntKind.i64, Kd.int IntKind.i64] (vev30_0 tk es), AV.bool false], []) else bif vev32_1 (vev30_0 tk es) (vev36_0 Tk.lent (vev30_0 tk es) id) then some (true, AV.tup [AV.sl Tk.imm [Kd.int IntKind.i64, Kd.int IntKind.i64] (List.take (rev32_0 (vev30_0 tk es) (vev36_0 Tk.lent (vev30_0 tk es) id)).toNat (List.drop (nat_lit 0) (vev32_0 (vev30_0 tk es) (vev36_0 Tk.lent (vev30_0 tk es) id)))), AV.bool true], []) else none else none else none := by kernel_rfl
  rw [h]
  clear h
  unfold vev20_0 vev20_1 vev20_2
  generalize (decide (vev36_0 Tk.lent (vev30_0 tk es) id < (0 : Int))) = c0
  generalize (vev32_1 (vev30_0 tk es) (vev36_0 Tk.lent (vev30_0 tk es) id)) = c1
  generalize (vev33_0 Tk.lent (vev30_0 tk es) id) = c2
  generalize (vev30_1 tk es) = c3
  cases c3
  · skip
    rfl
  · skip
    cases c2
    · skip
      rfl
    · skip
      cases c0
      · skip
        cases c1
        · skip
          rfl
        · skip
          rfl
      · skip
        rfl
-- spec vev20_2 tk es id ;; (true, AV.tup [AV.sl Tk.imm [Kd.int IntKind.i64, Kd.int IntKind.i64] (vev20_0 tk es id), AV.bool (vev20_1 tk es id)], [])
noncomputable def sp20 : List AV → List Blk → Option (Bool × AV × List Blk)
  | [.sl tk [.int .i64, .int .i64] es, .int .i64 id], [] => spW (vev20_2 tk es id) (some ((true, AV.tup [AV.sl Tk.imm [Kd.int IntKind.i64, Kd.int IntKind.i64] (vev20_0 tk es id), AV.bool (vev20_1 tk es id)], [])))
  | _, _ => none
noncomputable def k20 : Gam := fun f T C => match Nat.beq f 20 with
  | true => (sp20 T C).or (k19 f T C)
  | false => k19 f T C
theorem k20_ok : GamOK Try.prog k20 := by
  intro f T C r outs h
  unfold k20 at h
  cases hf : Nat.beq f 20 with
  | false => rw [hf] at h; exact k19_ok f T C r outs h
  | true =>
    have hf' := Nat.eq_of_beq_eq_true hf
    subst hf'
    rw [hf] at h
    dsimp only at h
    cases hs : sp20 T C with
    | none => rw [hs] at h; exact k19_ok _ T C r outs h
    | some x =>
      rw [hs] at h
      have hx : x = (true, r, outs) := by simpa using h
      subst hx
      unfold sp20 at hs
      split at hs
      · rename_i tk es id
        obtain ⟨hb, rfl, rfl⟩ := spT_inv hs
        have he := ev20 tk es id
        rw [hb, cond_true] at he
        obtain ⟨r0, o0, h0, he⟩ := evFin_inv he
        obtain ⟨h1, h2⟩ := fn_ok mixed plain (gk_ok k19_ok 30) Try.func20 (fun c _ => LoopsOK.none (fun _ _ => rfl) c) h0
        exact ⟨h1, h2.fin he⟩
      · cases hs
end Go.Proofs.Gv
