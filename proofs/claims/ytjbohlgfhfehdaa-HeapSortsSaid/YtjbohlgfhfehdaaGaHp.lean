import Derived.Test.YtjbohlgfhfehdaaGt
import Derived.KernelRfl
import Derived.Test.YtjbohlgfhfehdaaGwD
import Derived.Test.YtjbohlgfhfehdaaGwF
import Derived.Test.YtjbohlgfhfehdaaGxJ
namespace Go.Proofs.Gv
open Go.Proofs
set_option linter.unusedVariables false
theorem mixed : Try.prog.follows .mixedOrders = true := by kernel_rfl
theorem plain : plainNames Try.prog = true := by kernel_rfl
noncomputable abbrev j25 : Func := unj Try.f25
noncomputable abbrev j31 : Func := unj Try.f31
def k0 : Gam := fun _ _ _ => none
theorem k0_ok : GamOK Try.prog k0 := GamOK.none _
noncomputable abbrev gk (k : Gam) : Nat → Gam := gamJ Try.prog tab 100000 k
theorem gk_ok {k : Gam} (h : GamOK Try.prog k) (d : Nat) : GamOK Try.prog (gk k d) := gamJ_ok mixed plain h d
def spW (ok : Bool) (x : Option (Bool × AV × List Blk)) : Option (Bool × AV × List Blk) :=
  match x with
  | some (_, r, o) => some (ok, r, o)
  | none => none
theorem fin_some {P : Program} {frz : Bool} {m : Nat} {ts : List TypeId} {x : Option (AV × List Blk)} {b : Bool} {r : AV} {o : List Blk} (h : fin P frz m ts x = some (b, r, o)) : ∃ r0 o0, x = some (r0, o0) := by
  cases x with
  | none => cases h
  | some p => exact ⟨p.1, p.2, rfl⟩
theorem spT_inv {ok b' : Bool} {r r' : AV} {o o' : List Blk} (h : spW ok (some (b', r', o')) = some (true, r, o)) : ok = true ∧ r' = r ∧ o' = o := by
  unfold spW at h
  injection h with h
  injection h with h1 h
  injection h with h2 h3
  exact ⟨h1, h2, h3⟩
theorem fin_true {P : Program} {frz : Bool} {m : Nat} {ts : List TypeId} {x : Option (AV × List Blk)} {b : Bool} {r : AV} {o : List Blk} (h : fin P frz m ts x = some (b, r, o)) : b = true := by
  unfold fin at h
  split at h
  · split at h <;> (injection h with h; injection h with h; exact h.symm)
  · cases h
theorem spW_inv {P : Program} {frz : Bool} {m : Nat} {ts : List TypeId} {x : Option (AV × List Blk)} {ok : Bool} {r : AV} {o : List Blk} (h : spW ok (fin P frz m ts x) = some (true, r, o)) : ok = true ∧ fin P frz m ts x = some (true, r, o) := by
  unfold spW at h
  split at h
  · rename_i b r' o' he
    injection h with h
    injection h with h1 h
    injection h with h2 h3
    subst h1 h2 h3
    have := fin_true he
    subst this
    exact ⟨rfl, he⟩
  · cases h
noncomputable def vev15_0 (a : Int) (b : Int) (c : Int) (d : Int) : Bool := bif decide (a < c) then true else bif a == c then bif false then true else bif true then decide (b < d) else false else bif false then true else false
theorem ev15 (a : Int) (b : Int) (c : Int) (d : Int) : evFin (cfg Try.prog tab 100000 (gk k0 30) noLsp 15 ([] : List Blk).length Try.f15.ntmps) ([] : List Blk).length Try.f15.resultTypes.toList Try.f15 [.agg [.int .i64 a, .int .i64 b], .agg [.int .i64 c, .int .i64 d]] [] = bif true then some (true, AV.bool (vev15_0 a b c d), []) else none := by
  have h : evFin (cfg Try.prog tab 100000 (gk k0 30) noLsp 15 ([] : List Blk).length Try.f15.ntmps) ([] : List Blk).length Try.f15.resultTypes.toList Try.f15 [.agg [.int .i64 a, .int .i64 b], .agg [.int .i64 c, .int .i64 d]] [] = bif bif decide (a < c) then true else bif a == c then true else true then some (true, AV.bool (bif decide (a < c) then true else bif a == c then bif false then true else bif true then decide (b < d) else false else bif false then true else false), []) else none := by kernel_rfl
  rw [h]
  clear h
  unfold vev15_0
  generalize (decide (a < c)) = c0
  generalize (a == c) = c1
  cases c0
  · skip
    cases c1
    · skip
      rfl
    · skip
      rfl
  · skip
    rfl
-- spec true ;; (true, AV.bool (vev15_0 a b c d), [])
noncomputable def sp15 : List AV → List Blk → Option (Bool × AV × List Blk)
  | [.agg [.int .i64 a, .int .i64 b], .agg [.int .i64 c, .int .i64 d]], [] => spW (true) (some ((true, AV.bool (vev15_0 a b c d), [])))
  | _, _ => none
noncomputable def k15 : Gam := fun f T C => match Nat.beq f 15 with
  | true => (sp15 T C).or (k0 f T C)
  | false => k0 f T C
theorem k15_ok : GamOK Try.prog k15 := by
  intro f T C r outs h
  unfold k15 at h
  cases hf : Nat.beq f 15 with
  | false => rw [hf] at h; exact k0_ok f T C r outs h
  | true =>
    have hf' := Nat.eq_of_beq_eq_true hf
    subst hf'
    rw [hf] at h
    dsimp only at h
    cases hs : sp15 T C with
    | none => rw [hs] at h; exact k0_ok _ T C r outs h
    | some x =>
      rw [hs] at h
      have hx : x = (true, r, outs) := by simpa using h
      subst hx
      unfold sp15 at hs
      split at hs
      · rename_i a b c d
        obtain ⟨hb, rfl, rfl⟩ := spT_inv hs
        have he := ev15 a b c d
        obtain ⟨r0, o0, h0, he⟩ := evFin_inv he
        obtain ⟨h1, h2⟩ := fn_ok mixed plain (gk_ok k0_ok 30) Try.func15 (fun c _ => LoopsOK.none (fun _ _ => rfl) c) h0
        exact ⟨h1, h2.fin he⟩
      · cases hs
noncomputable def vev29_0 (tk : Tk) (es : List (List AV)) (i : Int) (k : Int) : Bool := vev15_0 (intOf ((es.getD i.toNat []).getD (0 : Nat) AV.junk)) (intOf ((es.getD i.toNat []).getD ((0 : Nat) + (1 : Nat)) AV.junk)) (intOf ((es.getD k.toNat []).getD (0 : Nat) AV.junk)) (intOf ((es.getD k.toNat []).getD ((0 : Nat) + (1 : Nat)) AV.junk))
noncomputable def vev29_1 (tk : Tk) (es : List (List AV)) (i : Int) (k : Int) : Bool := bif decide ((0 : Int) ≤ i) && decide (i < (↑es.length : Int)) then bif decide ((0 : Int) ≤ k) && decide (k < (↑es.length : Int)) then true else false else false
theorem ev29 (tk : Tk) (es : List (List AV)) (i : Int) (k : Int) : evFin (cfg Try.prog tab 100000 (gk k15 30) noLsp 29 ([] : List Blk).length Try.f29.ntmps) ([] : List Blk).length Try.f29.resultTypes.toList Try.f29 [.sl tk [.int .i64, .int .i64] es, .int .i64 i, .int .i64 k] [] = bif vev29_1 tk es i k then some (true, AV.bool (vev29_0 tk es i k), []) else none := by
  have h : evFin (cfg Try.prog tab 100000 (gk k15 30) noLsp 29 ([] : List Blk).length Try.f29.ntmps) ([] : List Blk).length Try.f29.resultTypes.toList Try.f29 [.sl tk [.int .i64, .int .i64] es, .int .i64 i, .int .i64 k] [] = bif decide ((0 : Int) ≤ i) && decide (i < (↑es.length : Int)) then bif decide ((0 : Int) ≤ k) && decide (k < (↑es.length : Int)) then some (true, AV.bool (vev15_0 (intOf ((es.getD i.toNat []).getD (0 : Nat) AV.junk)) (intOf ((es.getD i.toNat []).getD ((0 : Nat) + (1 : Nat)) AV.junk)) (intOf ((es.getD k.toNat []).getD (0 : Nat) AV.junk)) (intOf ((es.getD k.toNat []).getD ((0 : Nat) + (1 : Nat)) AV.junk))), []) else none else none := by kernel_rfl
  rw [h]
  clear h
  unfold vev29_0 vev29_1
  generalize (decide ((0 : Int) ≤ k) && decide (k < (↑es.length : Int))) = c0
  generalize (decide ((0 : Int) ≤ i) && decide (i < (↑es.length : Int))) = c1
  cases c1
  · skip
    rfl
  · skip
    cases c0
    · skip
      rfl
    · skip
      rfl
-- spec vev29_1 tk es i k ;; (true, AV.bool (vev29_0 tk es i k), [])
noncomputable def sp29 : List AV → List Blk → Option (Bool × AV × List Blk)
  | [.sl tk [.int .i64, .int .i64] es, .int .i64 i, .int .i64 k], [] => spW (vev29_1 tk es i k) (some ((true, AV.bool (vev29_0 tk es i k), [])))
  | _, _ => none
noncomputable def k29 : Gam := fun f T C => match Nat.beq f 29 with
  | true => (sp29 T C).or (k15 f T C)
  | false => k15 f T C
theorem k29_ok : GamOK Try.prog k29 := by
  intro f T C r outs h
  unfold k29 at h
  cases hf : Nat.beq f 29 with
  | false => rw [hf] at h; exact k15_ok f T C r outs h
  | true =>
    have hf' := Nat.eq_of_beq_eq_true hf
    subst hf'
    rw [hf] at h
    dsimp only at h
    cases hs : sp29 T C with
    | none => rw [hs] at h; exact k15_ok _ T C r outs h
    | some x =>
      rw [hs] at h
      have hx : x = (true, r, outs) := by simpa using h
      subst hx
      unfold sp29 at hs
      split at hs
      · rename_i tk es i k
        obtain ⟨hb, rfl, rfl⟩ := spT_inv hs
        have he := ev29 tk es i k
        rw [hb, cond_true] at he
        obtain ⟨r0, o0, h0, he⟩ := evFin_inv he
        obtain ⟨h1, h2⟩ := fn_ok mixed plain (gk_ok k15_ok 30) Try.func29 (fun c _ => LoopsOK.none (fun _ _ => rfl) c) h0
        exact ⟨h1, h2.fin he⟩
      · cases hs
noncomputable def rn31_0_0 (t1 : Int) (b0 : List (List AV)) : Int := IntKind.i64.wrap ((IntKind.i64.wrap (t1 - (1 : Int))).tdiv (2 : Int))
noncomputable def rn31_0_1 (t1 : Int) (b0 : List (List AV)) : Int := (↑(b0.set t1.toNat (over (fitRow [Kd.int IntKind.i64, Kd.int IntKind.i64] (b0.getD t1.toNat [])) (0 : Nat) (List.take (2 : Nat) (List.drop (0 : Nat) (fitRow [Kd.int IntKind.i64, Kd.int IntKind.i64] (b0.getD (rn31_0_0 t1 b0).toNat [])))))).length : Int)
noncomputable def go31_0 (t1 : Int) (b0 : List (List AV)) : Bool := bif bif decide (t1 > (0 : Int)) then vev29_1 Tk.lent b0 t1 (rn31_0_0 t1 b0) else true then bif bif decide (t1 > (0 : Int)) then bif vev29_1 Tk.lent b0 t1 (rn31_0_0 t1 b0) then vev29_0 Tk.lent b0 t1 (rn31_0_0 t1 b0) else false else false then bif decide ((0 : Int) ≤ rn31_0_0 t1 b0) && decide (rn31_0_0 t1 b0 < (↑b0.length : Int)) then bif decide ((0 : Int) ≤ t1) && decide (t1 < (↑b0.length : Int)) then bif decide ((0 : Int) ≤ rn31_0_0 t1 b0) then decide (rn31_0_0 t1 b0 < rn31_0_1 t1 b0) else false else false else false else false else false
noncomputable def nx31_0_1 (t1 : Int) (b0 : List (List AV)) : List (List AV) := (b0.set t1.toNat [AV.int IntKind.i64 (intOf ((b0.getD (rn31_0_0 t1 b0).toNat []).getD (0 : Nat) AV.junk)), AV.int IntKind.i64 (intOf ((b0.getD (rn31_0_0 t1 b0).toNat []).getD ((0 : Nat) + (1 : Nat)) AV.junk))]).set (rn31_0_0 t1 b0).toNat [AV.int IntKind.i64 (intOf ((b0.getD t1.toNat []).getD (0 : Nat) AV.junk)), AV.int IntKind.i64 (intOf ((b0.getD t1.toNat []).getD ((0 : Nat) + (1 : Nat)) AV.junk))]
noncomputable def xc31_0_0 (t1 : Int) (b0 : List (List AV)) : Bool := bif bif decide (t1 > (0 : Int)) then vev29_1 Tk.lent b0 t1 (rn31_0_0 t1 b0) else true then bif bif decide (t1 > (0 : Int)) then bif vev29_1 Tk.lent b0 t1 (rn31_0_0 t1 b0) then vev29_0 Tk.lent b0 t1 (rn31_0_0 t1 b0) else false else false then false else true else false
theorem rd31_0 (rest : Lsp) (t1 : Int) (b0 : List (List AV)) : roundV (cfg Try.prog tab 100000 (gk k29 30) rest 31 1 j31.ntmps) (loopAt j31 0) [0, 1] [0] [] [0] [AV.rf (nat_lit 0) [Kd.int IntKind.i64, Kd.int IntKind.i64], AV.int IntKind.i64 t1] [Blk.row [Kd.int IntKind.i64, Kd.int IntKind.i64] b0] = bif go31_0 t1 b0 then some (Ex.norm, [AV.rf (nat_lit 0) [Kd.int IntKind.i64, Kd.int IntKind.i64], AV.int IntKind.i64 (rn31_0_0 t1 b0)], [Blk.row [Kd.int IntKind.i64, Kd.int IntKind.i64] (nx31_0_1 t1 b0)]) else bif xc31_0_0 t1 b0 then some (Ex.exit (nat_lit 1048576), [], [Blk.row [Kd.int IntKind.i64, Kd.int IntKind.i64] b0]) else none := by
  have h : roundV (cfg Try.prog tab 100000 (gk k29 30) rest 31 1 j31.ntmps) (loopAt j31 0) [0, 1] [0] [] [0] [AV.rf (nat_lit 0) [Kd.int IntKind.i64, Kd.int IntKind.i64], AV.int IntKind.i64 t1] [Blk.row [Kd.int IntKind.i64, Kd.int IntKind.i64] b0] = bif bif decide (t1 > (0 : Int)) then bif vev29_1 Tk.lent b0 t1 (rn31_0_0 t1 b0) then true else false else true then bif bif decide (t1 > (0 : Int)) then bif vev29_1 Tk.lent b0 t1 (rn31_0_0 t1 b0) then bif true then vev29_0 Tk.lent b0 t1 (rn31_0_0 t1 b0) else false else false else false then bif decide ((0 : Int) ≤ rn31_0_0 t1 b0) && decide (rn31_0_0 t1 b0 < (↑b0.length : Int)) then bif decide ((0 : Int) ≤ t1) && decide (t1 < (↑b0.length : Int)) then bif decide ((0 : Int) ≤ t1) && decide (t1 < (↑b0.length : Int)) then bif bif decide ((0 : Int) ≤ rn31_0_0 t1 b0) then decide (rn31_0_0 t1 b0 < rn31_0_1 t1 b0) else false then some (Ex.norm, [AV.rf (nat_lit 0) [Kd.int IntKind.i64, Kd.int IntKind.i64], AV.int IntKind.i64 (rn31_0_0 t1 b0)], [Blk.row [Kd.int IntKind.i64, Kd.int IntKind.i64] ((b0.set t1.toNat [AV.int IntKind.i64 (intOf ((b0.getD (rn31_0_0 t1 b0).toNat []).getD (0 : Nat) AV.junk)), AV.int IntKind.i64 (intOf ((b0.getD (rn31_0_0 t1 b0).toNat []).getD ((0 : Nat) + (1 : Nat)) AV.junk))]).set (rn31_0_0 t1 b0).toNat [AV.int IntKind.i64 (intOf ((b0.getD t1.toNat []).getD (0 : Nat) AV.junk)), AV.int IntKind.i64 (intOf ((b0.getD t1.toNat []).getD ((0 : Nat) + (1 : Nat)) AV.junk))])]) else none else none else none else none else some (Ex.exit (nat_lit 1048576), [], [Blk.row [Kd.int IntKind.i64, Kd.int IntKind.i64] b0]) else none := by kernel_rfl
  rw [h]
  clear h
  unfold go31_0 nx31_0_1 xc31_0_0
  generalize (decide ((0 : Int) ≤ rn31_0_0 t1 b0) && decide (rn31_0_0 t1 b0 < (↑b0.length : Int))) = c0
  generalize (decide ((0 : Int) ≤ t1) && decide (t1 < (↑b0.length : Int))) = c1
  generalize (decide ((0 : Int) ≤ rn31_0_0 t1 b0)) = c2
  generalize (decide (rn31_0_0 t1 b0 < rn31_0_1 t1 b0)) = c3
  generalize (decide (t1 > (0 : Int))) = c4
  generalize (vev29_1 Tk.lent b0 t1 (rn31_0_0 t1 b0)) = c5
  generalize (vev29_0 Tk.lent b0 t1 (rn31_0_0 t1 b0)) = c6
  cases c4
  · skip
    rfl
  · skip
    cases c5
    · skip
      rfl
    · skip
      cases c6
      · skip
        rfl
      · skip
        cases c0
        · skip
          rfl
        · skip
          cases c1
          · skip
            rfl
          · skip
            cases c2
            · skip
              rfl
            · skip
              cases c3
              · skip
                rfl
              · skip
                rfl
abbrev pl31_0 : Type := Unit
abbrev sl31_0 : Type := Int × (List (List AV))
noncomputable def vt31_0 (a : pl31_0 × sl31_0) : List AV := [AV.rf (nat_lit 0) [Kd.int IntKind.i64, Kd.int IntKind.i64], AV.int IntKind.i64 a.2.1]
noncomputable def vc31_0 (a : pl31_0 × sl31_0) : List Blk := [Blk.row [Kd.int IntKind.i64, Kd.int IntKind.i64] a.2.2]
noncomputable def de31_0 (vt : List AV) (vc : List Blk) : Option (pl31_0 × sl31_0) :=
  match vt with
  | [qa0, qa1] => (match vc with
  | [qb0] => (match qa0 with
  | AV.rf (0) [Kd.int IntKind.i64, Kd.int IntKind.i64] => (match qa1 with
  | AV.int IntKind.i64 t1 => (match qb0 with
  | Blk.row [Kd.int IntKind.i64, Kd.int IntKind.i64] b0 => (some ((), (t1, b0)))
  | _ => none)
  | _ => none)
  | _ => none)
  | _ => none)
  | _ => none
theorem de31_0_ok (vt : List AV) (vc : List Blk) (a : pl31_0 × sl31_0) (h : de31_0 vt vc = some a) : vt = vt31_0 a ∧ vc = vc31_0 a := by
  unfold de31_0 at h
  split at h
  rotate_left
  · cases h
  split at h
  rotate_left
  · cases h
  split at h
  rotate_left
  · cases h
  split at h
  rotate_left
  · cases h
  split at h
  rotate_left
  · cases h
  injection h with h
  subst h
  exact ⟨rfl, rfl⟩
noncomputable def g31_0 (p : pl31_0) (s : sl31_0) : Bool := go31_0 s.1 s.2
noncomputable def n31_0 (p : pl31_0) (s : sl31_0) : sl31_0 := (rn31_0_0 s.1 s.2, nx31_0_1 s.1 s.2)
noncomputable def y31_0 (p : pl31_0) (s : sl31_0) : List (Bool × Out) := []
noncomputable def z31_0 (p : pl31_0) (s : sl31_0) : Bool := xc31_0_0 s.1 s.2
noncomputable def d31_0 (p : pl31_0) (s : sl31_0) : Out := (Ex.exit (nat_lit 1048576), [], [Blk.row [Kd.int IntKind.i64, Kd.int IntKind.i64] s.2])
noncomputable def ls31_0 : St → Option (Bool × List (Bool × Ex × St) × Ex × St) := lspOf [0, 1] [0] [] [0] j31.ntmps (1 + tab.nid 31) de31_0 (spI g31_0 n31_0 y31_0 z31_0 d31_0)
theorem lo31_0 (rest : Lsp) : LoopOK1 (cfg Try.prog tab 100000 (gk k29 30) (selL 0 ls31_0 rest) 31 1 j31.ntmps) (loopAt j31 0) := LoopOK1.iter (i := 0) (by kernel_rfl) [0, 1] [0] [] [0] vt31_0 vc31_0 de31_0 g31_0 n31_0 y31_0 z31_0 d31_0 (fun _ => rfl) de31_0_ok (fun p s => rd31_0 (selL 0 ls31_0 rest) (s.1) (s.2)) (fun _ _ => rfl)
noncomputable def lsp31 : Lsp := (selL 0 ls31_0 noLsp)
theorem loops31 : ∀ c, j31.body = some c → LoopsOK (cfg Try.prog tab 100000 (gk k29 30) lsp31 31 1 j31.ntmps) c := loops_of [0] (by kernel_rfl) (by kernel_rfl) (fun i hi => by
  simp only [List.mem_cons, List.not_mem_nil, or_false] at hi
  subst hi
  · exact lo31_0 noLsp)
noncomputable def rev31_0 (es : List (List AV)) (i : Int) : sl31_0 := finL (g31_0 ()) (n31_0 ()) (i, es)
noncomputable def vev31_0 (es : List (List AV)) (i : Int) : List (List AV) := (rev31_0 es i).snd
noncomputable def vev31_1 (es : List (List AV)) (i : Int) : Bool := bif (spI g31_0 n31_0 y31_0 z31_0 d31_0 ((), i, es)).fst then true else false
theorem ev31 (es : List (List AV)) (i : Int) : evFin (cfg Try.prog tab 100000 (gk k29 30) lsp31 31 ([.row [.int .i64, .int .i64] es] : List Blk).length j31.ntmps) ([.row [.int .i64, .int .i64] es] : List Blk).length j31.resultTypes.toList j31 [.rf 0 [.int .i64, .int .i64], .int .i64 i] [.row [.int .i64, .int .i64] es] = bif vev31_1 es i then some (true, AV.tup [], [Blk.row [Kd.int IntKind.i64, Kd.int IntKind.i64] (vev31_0 es i)]) else none := by
  have h : evFin (cfg Try.prog tab 100000 (gk k29 30) lsp31 31 ([.row [.int .i64, .int .i64] es] : List Blk).length j31.ntmps) ([.row [.int .i64, .int .i64] es] : List Blk).length j31.resultTypes.toList j31 [.rf 0 [.int .i64, .int .i64], .int .i64 i] [.row [.int .i64, .int .i64] es] = bif (spI g31_0 n31_0 y31_0 z31_0 d31_0 ((), i, es)).fst then some (true, AV.tup [], [Blk.row [Kd.int IntKind.i64, Kd.int IntKind.i64] (rev31_0 es i).snd]) else none := by kernel_rfl
  rw [h]
  clear h
  unfold vev31_0 vev31_1
  generalize ((spI g31_0 n31_0 y31_0 z31_0 d31_0 ((), i, es)).fst) = c0
  cases c0
  · skip
    rfl
  · skip
    rfl
-- spec vev31_1 es i ;; (true, AV.tup [], [Blk.row [Kd.int IntKind.i64, Kd.int IntKind.i64] (vev31_0 es i)])
noncomputable def sp31 : List AV → List Blk → Option (Bool × AV × List Blk)
  | [.rf 0 [.int .i64, .int .i64], .int .i64 i], [.row [.int .i64, .int .i64] es] => spW (vev31_1 es i) (some ((true, AV.tup [], [Blk.row [Kd.int IntKind.i64, Kd.int IntKind.i64] (vev31_0 es i)])))
  | _, _ => none
noncomputable def k31 : Gam := fun f T C => match Nat.beq f 31 with
  | true => (sp31 T C).or (k29 f T C)
  | false => k29 f T C
theorem k31_ok : GamOK Try.prog k31 := by
  intro f T C r outs h
  unfold k31 at h
  cases hf : Nat.beq f 31 with
  | false => rw [hf] at h; exact k29_ok f T C r outs h
  | true =>
    have hf' := Nat.eq_of_beq_eq_true hf
    subst hf'
    rw [hf] at h
    dsimp only at h
    cases hs : sp31 T C with
    | none => rw [hs] at h; exact k29_ok _ T C r outs h
    | some x =>
      rw [hs] at h
      have hx : x = (true, r, outs) := by simpa using h
      subst hx
      unfold sp31 at hs
      split at hs
      · rename_i i es
        obtain ⟨hb, rfl, rfl⟩ := spT_inv hs
        have he := ev31 es i
        rw [hb, cond_true] at he
        obtain ⟨r0, o0, h0, he⟩ := evFin_inv he
        obtain ⟨h1, h2⟩ := fn_okJ mixed plain (gk_ok k29_ok 30) Try.func31 loops31 h0
        exact ⟨h1, h2.fin he⟩
      · cases hs
noncomputable def rn31s_0_0 (t0i : Nat) (t0n : Nat) (t0c : Nat) (t1 : Int) (b0 : List (List AV)) : List (List AV) := List.take t0n (List.drop t0i b0)
noncomputable def rn31s_0_1 (t0i : Nat) (t0n : Nat) (t0c : Nat) (t1 : Int) (b0 : List (List AV)) : Int := IntKind.i64.wrap ((IntKind.i64.wrap (t1 - (1 : Int))).tdiv (2 : Int))
noncomputable def go31s_0 (t0i : Nat) (t0n : Nat) (t0c : Nat) (t1 : Int) (b0 : List (List AV)) : Bool := bif bif decide (t1 > (0 : Int)) then vev29_1 Tk.lent (rn31s_0_0 t0i t0n t0c t1 b0) t1 (rn31s_0_1 t0i t0n t0c t1 b0) else true then bif bif decide (t1 > (0 : Int)) then bif vev29_1 Tk.lent (rn31s_0_0 t0i t0n t0c t1 b0) t1 (rn31s_0_1 t0i t0n t0c t1 b0) then vev29_0 Tk.lent (rn31s_0_0 t0i t0n t0c t1 b0) t1 (rn31s_0_1 t0i t0n t0c t1 b0) else false else false then bif decide ((0 : Int) ≤ rn31s_0_1 t0i t0n t0c t1 b0) && decide (rn31s_0_1 t0i t0n t0c t1 b0 < (↑t0n : Int)) then decide ((0 : Int) ≤ t1) && decide (t1 < (↑t0n : Int)) else false else false else false
noncomputable def nx31s_0_4 (t0i : Nat) (t0n : Nat) (t0c : Nat) (t1 : Int) (b0 : List (List AV)) : List (List AV) := (b0.set (t1.toNat + t0i) [AV.int IntKind.i64 (intOf ((b0.getD ((rn31s_0_1 t0i t0n t0c t1 b0).toNat + t0i) []).getD (0 : Nat) AV.junk)), AV.int IntKind.i64 (intOf ((b0.getD ((rn31s_0_1 t0i t0n t0c t1 b0).toNat + t0i) []).getD ((0 : Nat) + (1 : Nat)) AV.junk))]).set ((rn31s_0_1 t0i t0n t0c t1 b0).toNat + t0i) [AV.int IntKind.i64 (intOf ((b0.getD (t1.toNat + t0i) []).getD (0 : Nat) AV.junk)), AV.int IntKind.i64 (intOf ((b0.getD (t1.toNat + t0i) []).getD ((0 : Nat) + (1 : Nat)) AV.junk))]
noncomputable def xc31s_0_0 (t0i : Nat) (t0n : Nat) (t0c : Nat) (t1 : Int) (b0 : List (List AV)) : Bool := bif bif decide (t1 > (0 : Int)) then vev29_1 Tk.lent (rn31s_0_0 t0i t0n t0c t1 b0) t1 (rn31s_0_1 t0i t0n t0c t1 b0) else true then bif bif decide (t1 > (0 : Int)) then bif vev29_1 Tk.lent (rn31s_0_0 t0i t0n t0c t1 b0) t1 (rn31s_0_1 t0i t0n t0c t1 b0) then vev29_0 Tk.lent (rn31s_0_0 t0i t0n t0c t1 b0) t1 (rn31s_0_1 t0i t0n t0c t1 b0) else false else false then false else true else false
theorem rd31s_0 (rest : Lsp) (t0i : Nat) (t0n : Nat) (t0c : Nat) (t1 : Int) (b0 : List (List AV)) : roundV (cfg Try.prog tab 100000 (gk k31 30) rest 31 1 j31.ntmps) (loopAt j31 0) [0, 1] [0] [] [0] [AV.rs (nat_lit 0) [Kd.int IntKind.i64, Kd.int IntKind.i64] t0i t0n t0c, AV.int IntKind.i64 t1] [Blk.row [Kd.int IntKind.i64, Kd.int IntKind.i64] b0] = bif go31s_0 t0i t0n t0c t1 b0 then some (Ex.norm, [AV.rs (nat_lit 0) [Kd.int IntKind.i64, Kd.int IntKind.i64] t0i t0n t0c, AV.int IntKind.i64 (rn31s_0_1 t0i t0n t0c t1 b0)], [Blk.row [Kd.int IntKind.i64, Kd.int IntKind.i64] (nx31s_0_4 t0i t0n t0c t1 b0)]) else bif xc31s_0_0 t0i t0n t0c t1 b0 then some (Ex.exit (nat_lit 1048576), [], [Blk.row [Kd.int IntKind.i64, Kd.int IntKind.i64] b0]) else none := by
  have h : roundV (cfg Try.prog tab 100000 (gk k31 30) rest 31 1 j31.ntmps) (loopAt j31 0) [0, 1] [0] [] [0] [AV.rs (nat_lit 0) [Kd.int IntKind.i64, Kd.int IntKind.i64] t0i t0n t0c, AV.int IntKind.i64 t1] [Blk.row [Kd.int IntKind.i64, Kd.int IntKind.i64] b0] = bif bif decide (t1 > (0 : Int)) then bif vev29_1 Tk.lent (rn31s_0_0 t0i t0n t0c t1 b0) t1 (rn31s_0_1 t0i t0n t0c t1 b0) then true else false else true then bif bif decide (t1 > (0 : Int)) then bif vev29_1 Tk.lent (rn31s_0_0 t0i t0n t0c t1 b0) t1 (rn31s_0_1 t0i t0n t0c t1 b0) then bif true then vev29_0 Tk.lent (rn31s_0_0 t0i t0n t0c t1 b0) t1 (rn31s_0_1 t0i t0n t0c t1 b0) else false else false else false then bif decide ((0 : Int) ≤ rn31s_0_1 t0i t0n t0c t1 b0) && decide (rn31s_0_1 t0i t0n t0c t1 b0 < (↑t0n : Int)) then bif decide ((0 : Int) ≤ t1) && decide (t1 < (↑t0n : Int)) then bif decide ((0 : Int) ≤ t1) && decide (t1 < (↑t0n : Int)) then bif decide ((0 : Int) ≤ rn31s_0_1 t0i t0n t0c t1 b0) && decide (rn31s_0_1 t0i t0n t0c t1 b0 < (↑t0n : Int)) then some (Ex.norm, [AV.rs (nat_lit 0) [Kd.int IntKind.i64, Kd.int IntKind.i64] t0i t0n t0c, AV.int IntKind.i64 (rn31s_0_1 t0i t0n t0c t1 b0)], [Blk.row [Kd.int IntKind.i64, Kd.int IntKind.i64] ((b0.set (t1.toNat + t0i) [AV.int IntKind.i64 (intOf ((b0.getD ((rn31s_0_1 t0i t0n t0c t1 b0).toNat + t0i) []).getD (0 : Nat) AV.junk)), AV.int IntKind.i64 (intOf ((b0.getD ((rn31s_0_1 t0i t0n t0c t1 b0).toNat + t0i) []).getD ((0 : Nat) + (1 : Nat)) AV.junk))]).set ((rn31s_0_1 t0i t0n t0c t1 b0).toNat + t0i) [AV.int IntKind.i64 (intOf ((b0.getD (t1.toNat + t0i) []).getD (0 : Nat) AV.junk)), AV.int IntKind.i64 (intOf ((b0.getD (t1.toNat + t0i) []).getD ((0 : Nat) + (1 : Nat)) AV.junk))])]) else none else none else none else none else some (Ex.exit (nat_lit 1048576), [], [Blk.row [Kd.int IntKind.i64, Kd.int IntKind.i64] b0]) else none := by kernel_rfl
  rw [h]
  clear h
  unfold go31s_0 nx31s_0_4 xc31s_0_0
  generalize (decide ((0 : Int) ≤ rn31s_0_1 t0i t0n t0c t1 b0) && decide (rn31s_0_1 t0i t0n t0c t1 b0 < (↑t0n : Int))) = c0
  generalize (decide ((0 : Int) ≤ t1) && decide (t1 < (↑t0n : Int))) = c1
  generalize (decide (t1 > (0 : Int))) = c2
  generalize (vev29_0 Tk.lent (rn31s_0_0 t0i t0n t0c t1 b0) t1 (rn31s_0_1 t0i t0n t0c t1 b0)) = c3
  generalize (vev29_1 Tk.lent (rn31s_0_0 t0i t0n t0c t1 b0) t1 (rn31s_0_1 t0i t0n t0c t1 b0)) = c4
  cases c2
  · skip
    rfl
  · skip
    cases c4
    · skip
      rfl
    · skip
      cases c3
      · skip
        rfl
      · skip
        cases c0
        · skip
          rfl
        · skip
          cases c1
          · skip
            rfl
          · skip
            rfl
abbrev pl31s_0 : Type := Nat × Nat × Nat
abbrev sl31s_0 : Type := Int × (List (List AV))
noncomputable def vt31s_0 (a : pl31s_0 × sl31s_0) : List AV := [AV.rs (nat_lit 0) [Kd.int IntKind.i64, Kd.int IntKind.i64] a.1.1 a.1.2.1 a.1.2.2, AV.int IntKind.i64 a.2.1]
noncomputable def vc31s_0 (a : pl31s_0 × sl31s_0) : List Blk := [Blk.row [Kd.int IntKind.i64, Kd.int IntKind.i64] a.2.2]
noncomputable def de31s_0 (vt : List AV) (vc : List Blk) : Option (pl31s_0 × sl31s_0) :=
  match vt with
  | [qa0, qa1] => (match vc with
  | [qb0] => (match qa0 with
  | AV.rs (0) [Kd.int IntKind.i64, Kd.int IntKind.i64] t0i t0n t0c => (match qa1 with
  | AV.int IntKind.i64 t1 => (match qb0 with
  | Blk.row [Kd.int IntKind.i64, Kd.int IntKind.i64] b0 => (some ((t0i, t0n, t0c), (t1, b0)))
  | _ => none)
  | _ => none)
  | _ => none)
  | _ => none)
  | _ => none
theorem de31s_0_ok (vt : List AV) (vc : List Blk) (a : pl31s_0 × sl31s_0) (h : de31s_0 vt vc = some a) : vt = vt31s_0 a ∧ vc = vc31s_0 a := by
  unfold de31s_0 at h
  split at h
  rotate_left
  · cases h
  split at h
  rotate_left
  · cases h
  split at h
  rotate_left
  · cases h
  split at h
  rotate_left
  · cases h
  split at h
  rotate_left
  · cases h
  injection h with h
  subst h
  exact ⟨rfl, rfl⟩
noncomputable def g31s_0 (p : pl31s_0) (s : sl31s_0) : Bool := go31s_0 p.1 p.2.1 p.2.2 s.1 s.2
noncomputable def n31s_0 (p : pl31s_0) (s : sl31s_0) : sl31s_0 := (rn31s_0_1 p.1 p.2.1 p.2.2 s.1 s.2, nx31s_0_4 p.1 p.2.1 p.2.2 s.1 s.2)
noncomputable def y31s_0 (p : pl31s_0) (s : sl31s_0) : List (Bool × Out) := []
noncomputable def z31s_0 (p : pl31s_0) (s : sl31s_0) : Bool := xc31s_0_0 p.1 p.2.1 p.2.2 s.1 s.2
noncomputable def d31s_0 (p : pl31s_0) (s : sl31s_0) : Out := (Ex.exit (nat_lit 1048576), [], [Blk.row [Kd.int IntKind.i64, Kd.int IntKind.i64] s.2])
noncomputable def ls31s_0 : St → Option (Bool × List (Bool × Ex × St) × Ex × St) := lspOf [0, 1] [0] [] [0] j31.ntmps (1 + tab.nid 31) de31s_0 (spI g31s_0 n31s_0 y31s_0 z31s_0 d31s_0)
theorem lo31s_0 (rest : Lsp) : LoopOK1 (cfg Try.prog tab 100000 (gk k31 30) (selL 0 ls31s_0 rest) 31 1 j31.ntmps) (loopAt j31 0) := LoopOK1.iter (i := 0) (by kernel_rfl) [0, 1] [0] [] [0] vt31s_0 vc31s_0 de31s_0 g31s_0 n31s_0 y31s_0 z31s_0 d31s_0 (fun _ => rfl) de31s_0_ok (fun p s => rd31s_0 (selL 0 ls31s_0 rest) (p.1) (p.2.1) (p.2.2) (s.1) (s.2)) (fun _ _ => rfl)
noncomputable def lsp31s : Lsp := (selL 0 ls31s_0 noLsp)
theorem loops31s : ∀ c, j31.body = some c → LoopsOK (cfg Try.prog tab 100000 (gk k31 30) lsp31s 31 1 j31.ntmps) c := loops_of [0] (by kernel_rfl) (by kernel_rfl) (fun i hi => by
  simp only [List.mem_cons, List.not_mem_nil, or_false] at hi
  subst hi
  · exact lo31s_0 noLsp)
noncomputable def rev31s_0 (es : List (List AV)) (n : Nat) (cp : Nat) (i : Int) : sl31s_0 := finL (g31s_0 ((0 : Nat), n, cp)) (n31s_0 ((0 : Nat), n, cp)) (i, es)
noncomputable def vev31s_0 (es : List (List AV)) (n : Nat) (cp : Nat) (i : Int) : List (List AV) := (rev31s_0 es n cp i).snd
noncomputable def vev31s_1 (es : List (List AV)) (n : Nat) (cp : Nat) (i : Int) : Bool := bif (spI g31s_0 n31s_0 y31s_0 z31s_0 d31s_0 (((0 : Nat), n, cp), i, es)).fst then true else false
theorem ev31s (es : List (List AV)) (n : Nat) (cp : Nat) (i : Int) : evFin (cfg Try.prog tab 100000 (gk k31 30) lsp31s 31 ([.row [.int .i64, .int .i64] es] : List Blk).length j31.ntmps) ([.row [.int .i64, .int .i64] es] : List Blk).length j31.resultTypes.toList j31 [.rs 0 [.int .i64, .int .i64] 0 n cp, .int .i64 i] [.row [.int .i64, .int .i64] es] = bif vev31s_1 es n cp i then some (true, AV.tup [], [Blk.row [Kd.int IntKind.i64, Kd.int IntKind.i64] (vev31s_0 es n cp i)]) else none := by
  have h : evFin (cfg Try.prog tab 100000 (gk k31 30) lsp31s 31 ([.row [.int .i64, .int .i64] es] : List Blk).length j31.ntmps) ([.row [.int .i64, .int .i64] es] : List Blk).length j31.resultTypes.toList j31 [.rs 0 [.int .i64, .int .i64] 0 n cp, .int .i64 i] [.row [.int .i64, .int .i64] es] = bif (spI g31s_0 n31s_0 y31s_0 z31s_0 d31s_0 (((0 : Nat), n, cp), i, es)).fst then some (true, AV.tup [], [Blk.row [Kd.int IntKind.i64, Kd.int IntKind.i64] (rev31s_0 es n cp i).snd]) else none := by kernel_rfl
  rw [h]
  clear h
  unfold vev31s_0 vev31s_1
  generalize ((spI g31s_0 n31s_0 y31s_0 z31s_0 d31s_0 (((0 : Nat), n, cp), i, es)).fst) = c0
  cases c0
  · skip
    rfl
  · skip
    rfl
-- spec vev31s_1 es n cp i ;; (true, AV.tup [], [Blk.row [Kd.int IntKind.i64, Kd.int IntKind.i64] (vev31s_0 es n cp i)])
noncomputable def sp31s : List AV → List Blk → Option (Bool × AV × List Blk)
  | [.rs 0 [.int .i64, .int .i64] 0 n cp, .int .i64 i], [.row [.int .i64, .int .i64] es] => spW (vev31s_1 es n cp i) (some ((true, AV.tup [], [Blk.row [Kd.int IntKind.i64, Kd.int IntKind.i64] (vev31s_0 es n cp i)])))
  | _, _ => none
noncomputable def k31s : Gam := fun f T C => match Nat.beq f 31 with
  | true => (sp31s T C).or (k31 f T C)
  | false => k31 f T C
theorem k31s_ok : GamOK Try.prog k31s := by
  intro f T C r outs h
  unfold k31s at h
  cases hf : Nat.beq f 31 with
  | false => rw [hf] at h; exact k31_ok f T C r outs h
  | true =>
    have hf' := Nat.eq_of_beq_eq_true hf
    subst hf'
    rw [hf] at h
    dsimp only at h
    cases hs : sp31s T C with
    | none => rw [hs] at h; exact k31_ok _ T C r outs h
    | some x =>
      rw [hs] at h
      have hx : x = (true, r, outs) := by simpa using h
      subst hx
      unfold sp31s at hs
      split at hs
      · rename_i n cp i es
        obtain ⟨hb, rfl, rfl⟩ := spT_inv hs
        have he := ev31s es n cp i
        rw [hb, cond_true] at he
        obtain ⟨r0, o0, h0, he⟩ := evFin_inv he
        obtain ⟨h1, h2⟩ := fn_okJ mixed plain (gk_ok k31_ok 30) Try.func31 loops31s h0
        exact ⟨h1, h2.fin he⟩
      · cases hs
noncomputable def rn25_2_0 (t1 : Int) (t4 : Int) (t5 : Int) (b0 : List (List AV)) : Int := IntKind.i64.wrap (IntKind.i64.wrap ((2 : Int) * t1) + (2 : Int))
noncomputable def go25_2 (t1 : Int) (t4 : Int) (t5 : Int) (b0 : List (List AV)) : Bool := bif bif decide (t5 ≤ rn25_2_0 t1 t4 t5 b0) then decide (t5 < (↑b0.length : Int)) else false then vev29_1 Tk.lent b0 t5 t4 else false
noncomputable def nx25_2_1 (t1 : Int) (t4 : Int) (t5 : Int) (b0 : List (List AV)) : Int := bif vev29_0 Tk.lent b0 t5 t4 then t5 else t4
noncomputable def nx25_2_2 (t1 : Int) (t4 : Int) (t5 : Int) (b0 : List (List AV)) : Int := IntKind.i64.wrap (t5 + (1 : Int))
noncomputable def xc25_2_0 (t1 : Int) (t4 : Int) (t5 : Int) (b0 : List (List AV)) : Bool := bif bif decide (t5 ≤ rn25_2_0 t1 t4 t5 b0) then decide (t5 < (↑b0.length : Int)) else false then false else true
theorem rd25_2 (rest : Lsp) (t1 : Int) (t4 : Int) (t5 : Int) (b0 : List (List AV)) : roundV (cfg Try.prog tab 100000 (gk k31s 30) rest 25 1 j25.ntmps) (loopAt j25 2) [0, 1, 4, 5] [0] [0, 1, 4] [0] [AV.rf (nat_lit 0) [Kd.int IntKind.i64, Kd.int IntKind.i64], AV.int IntKind.i64 t1, AV.int IntKind.i64 t4, AV.int IntKind.i64 t5] [Blk.row [Kd.int IntKind.i64, Kd.int IntKind.i64] b0] = bif go25_2 t1 t4 t5 b0 then some (Ex.norm, [AV.rf (nat_lit 0) [Kd.int IntKind.i64, Kd.int IntKind.i64], AV.int IntKind.i64 t1, AV.int IntKind.i64 (nx25_2_1 t1 t4 t5 b0), AV.int IntKind.i64 (nx25_2_2 t1 t4 t5 b0)], [Blk.row [Kd.int IntKind.i64, Kd.int IntKind.i64] b0]) else bif xc25_2_0 t1 t4 t5 b0 then some (Ex.exit (nat_lit 0), [AV.rf (nat_lit 0) [Kd.int IntKind.i64, Kd.int IntKind.i64], AV.int IntKind.i64 t1, AV.int IntKind.i64 t4], [Blk.row [Kd.int IntKind.i64, Kd.int IntKind.i64] b0]) else none := by
  have h : roundV (cfg Try.prog tab 100000 (gk k31s 30) rest 25 1 j25.ntmps) (loopAt j25 2) [0, 1, 4, 5] [0] [0, 1, 4] [0] [AV.rf (nat_lit 0) [Kd.int IntKind.i64, Kd.int IntKind.i64], AV.int IntKind.i64 t1, AV.int IntKind.i64 t4, AV.int IntKind.i64 t5] [Blk.row [Kd.int IntKind.i64, Kd.int IntKind.i64] b0] = bif bif decide (t5 ≤ rn25_2_0 t1 t4 t5 b0) then true else true then bif bif decide (t5 ≤ rn25_2_0 t1 t4 t5 b0) then bif true then decide (t5 < (↑b0.length : Int)) else false else false then bif vev29_1 Tk.lent b0 t5 t4 then bif vev29_0 Tk.lent b0 t5 t4 then some (Ex.norm, [AV.rf (nat_lit 0) [Kd.int IntKind.i64, Kd.int IntKind.i64], AV.int IntKind.i64 t1, AV.int IntKind.i64 t5, AV.int IntKind.i64 (IntKind.i64.wrap (t5 + (1 : Int)))], [Blk.row [Kd.int IntKind.i64, Kd.int IntKind.i64] b0]) else some (Ex.norm, [AV.rf (nat_lit 0) [Kd.int IntKind.i64, Kd.int IntKind.i64], AV.int IntKind.i64 t1, AV.int IntKind.i64 t4, AV.int IntKind.i64 (IntKind.i64.wrap (t5 + (1 : Int)))], [Blk.row [Kd.int IntKind.i64, Kd.int IntKind.i64] b0]) else none else some (Ex.exit (nat_lit 0), [AV.rf (nat_lit 0) [Kd.int IntKind.i64, Kd.int IntKind.i64], AV.int IntKind.i64 t1, AV.int IntKind.i64 t4], [Blk.row [Kd.int IntKind.i64, Kd.int IntKind.i64] b0]) else none := by kernel_rfl
  rw [h]
  clear h
  unfold go25_2 nx25_2_1 nx25_2_2 xc25_2_0
  generalize (decide (t5 < (↑b0.length : Int))) = c0
  generalize (decide (t5 ≤ rn25_2_0 t1 t4 t5 b0)) = c1
  generalize (vev29_0 Tk.lent b0 t5 t4) = c2
  generalize (vev29_1 Tk.lent b0 t5 t4) = c3
  cases c1
  · skip
    rfl
  · skip
    cases c0
    · skip
      rfl
    · skip
      cases c3
      · skip
        rfl
      · skip
        cases c2
        · skip
          rfl
        · skip
          rfl
abbrev pl25_2 : Type := Int × (List (List AV))
abbrev sl25_2 : Type := Int × Int
noncomputable def vt25_2 (a : pl25_2 × sl25_2) : List AV := [AV.rf (nat_lit 0) [Kd.int IntKind.i64, Kd.int IntKind.i64], AV.int IntKind.i64 a.1.1, AV.int IntKind.i64 a.2.1, AV.int IntKind.i64 a.2.2]
noncomputable def vc25_2 (a : pl25_2 × sl25_2) : List Blk := [Blk.row [Kd.int IntKind.i64, Kd.int IntKind.i64] a.1.2]
noncomputable def de25_2 (vt : List AV) (vc : List Blk) : Option (pl25_2 × sl25_2) :=
  match vt with
  | [qa0, qa1, qa2, qa3] => (match vc with
  | [qb0] => (match qa0 with
  | AV.rf (0) [Kd.int IntKind.i64, Kd.int IntKind.i64] => (match qa1 with
  | AV.int IntKind.i64 t1 => (match qa2 with
  | AV.int IntKind.i64 t4 => (match qa3 with
  | AV.int IntKind.i64 t5 => (match qb0 with
  | Blk.row [Kd.int IntKind.i64, Kd.int IntKind.i64] b0 => (some ((t1, b0), (t4, t5)))
  | _ => none)
  | _ => none)
  | _ => none)
  | _ => none)
  | _ => none)
  | _ => none)
  | _ => none
theorem de25_2_ok (vt : List AV) (vc : List Blk) (a : pl25_2 × sl25_2) (h : de25_2 vt vc = some a) : vt = vt25_2 a ∧ vc = vc25_2 a := by
  unfold de25_2 at h
  split at h
  rotate_left
  · cases h
  split at h
  rotate_left
  · cases h
  split at h
  rotate_left
  · cases h
  split at h
  rotate_left
  · cases h
  split at h
  rotate_left
  · cases h
  split at h
  rotate_left
  · cases h
  split at h
  rotate_left
  · cases h
  injection h with h
  subst h
  exact ⟨rfl, rfl⟩
noncomputable def g25_2 (p : pl25_2) (s : sl25_2) : Bool := go25_2 p.1 s.1 s.2 p.2
noncomputable def n25_2 (p : pl25_2) (s : sl25_2) : sl25_2 := (nx25_2_1 p.1 s.1 s.2 p.2, nx25_2_2 p.1 s.1 s.2 p.2)
noncomputable def y25_2 (p : pl25_2) (s : sl25_2) : List (Bool × Out) := []
noncomputable def z25_2 (p : pl25_2) (s : sl25_2) : Bool := xc25_2_0 p.1 s.1 s.2 p.2
noncomputable def d25_2 (p : pl25_2) (s : sl25_2) : Out := (Ex.exit (nat_lit 0), [AV.rf (nat_lit 0) [Kd.int IntKind.i64, Kd.int IntKind.i64], AV.int IntKind.i64 p.1, AV.int IntKind.i64 s.1], [Blk.row [Kd.int IntKind.i64, Kd.int IntKind.i64] p.2])
noncomputable def ls25_2 : St → Option (Bool × List (Bool × Ex × St) × Ex × St) := lspOf [0, 1, 4, 5] [0] [0, 1, 4] [0] j25.ntmps (1 + tab.nid 25) de25_2 (spI g25_2 n25_2 y25_2 z25_2 d25_2)
theorem lo25_2 (rest : Lsp) : LoopOK1 (cfg Try.prog tab 100000 (gk k31s 30) (selL 2 ls25_2 rest) 25 1 j25.ntmps) (loopAt j25 2) := LoopOK1.iter (i := 2) (by kernel_rfl) [0, 1, 4, 5] [0] [0, 1, 4] [0] vt25_2 vc25_2 de25_2 g25_2 n25_2 y25_2 z25_2 d25_2 (fun _ => rfl) de25_2_ok (fun p s => rd25_2 (selL 2 ls25_2 rest) (p.1) (s.1) (s.2) (p.2)) (fun _ _ => rfl)
noncomputable def rn25_0_0 (t1 : Int) (b0 : List (List AV)) : sl25_2 := finL (g25_2 (t1, b0)) (n25_2 (t1, b0)) (t1, IntKind.i64.wrap (IntKind.i64.wrap ((2 : Int) * t1) + (1 : Int)))
noncomputable def rn25_0_1 (t1 : Int) (b0 : List (List AV)) : Int := (rn25_0_0 t1 b0).fst
noncomputable def rn25_0_2 (t1 : Int) (b0 : List (List AV)) : Int := (↑(b0.set t1.toNat (over (fitRow [Kd.int IntKind.i64, Kd.int IntKind.i64] (b0.getD t1.toNat [])) (0 : Nat) (List.take (2 : Nat) (List.drop (0 : Nat) (fitRow [Kd.int IntKind.i64, Kd.int IntKind.i64] (b0.getD (rn25_0_1 t1 b0).toNat [])))))).length : Int)
noncomputable def go25_0 (t1 : Int) (b0 : List (List AV)) : Bool := bif (spI g25_2 n25_2 y25_2 z25_2 d25_2 ((t1, b0), t1, IntKind.i64.wrap (IntKind.i64.wrap ((2 : Int) * t1) + (1 : Int)))).fst then bif rn25_0_1 t1 b0 != t1 then bif decide ((0 : Int) ≤ rn25_0_1 t1 b0) && decide (rn25_0_1 t1 b0 < (↑b0.length : Int)) then bif decide ((0 : Int) ≤ t1) && decide (t1 < (↑b0.length : Int)) then bif decide ((0 : Int) ≤ rn25_0_1 t1 b0) then decide (rn25_0_1 t1 b0 < rn25_0_2 t1 b0) else false else false else false else false else false
noncomputable def nx25_0_1 (t1 : Int) (b0 : List (List AV)) : List (List AV) := (b0.set t1.toNat [AV.int IntKind.i64 (intOf ((b0.getD (rn25_0_1 t1 b0).toNat []).getD (0 : Nat) AV.junk)), AV.int IntKind.i64 (intOf ((b0.getD (rn25_0_1 t1 b0).toNat []).getD ((0 : Nat) + (1 : Nat)) AV.junk))]).set (rn25_0_1 t1 b0).toNat [AV.int IntKind.i64 (intOf ((b0.getD t1.toNat []).getD (0 : Nat) AV.junk)), AV.int IntKind.i64 (intOf ((b0.getD t1.toNat []).getD ((0 : Nat) + (1 : Nat)) AV.junk))]
noncomputable def xc25_0_0 (t1 : Int) (b0 : List (List AV)) : Bool := bif (spI g25_2 n25_2 y25_2 z25_2 d25_2 ((t1, b0), t1, IntKind.i64.wrap (IntKind.i64.wrap ((2 : Int) * t1) + (1 : Int)))).fst then bif rn25_0_1 t1 b0 != t1 then false else true else false
theorem rd25_0 (rest : Lsp) (t1 : Int) (b0 : List (List AV)) : roundV (cfg Try.prog tab 100000 (gk k31s 30) (selL 2 ls25_2 rest) 25 1 j25.ntmps) (loopAt j25 0) [0, 1] [0] [] [0] [AV.rf (nat_lit 0) [Kd.int IntKind.i64, Kd.int IntKind.i64], AV.int IntKind.i64 t1] [Blk.row [Kd.int IntKind.i64, Kd.int IntKind.i64] b0] = bif go25_0 t1 b0 then some (Ex.norm, [AV.rf (nat_lit 0) [Kd.int IntKind.i64, Kd.int IntKind.i64], AV.int IntKind.i64 (rn25_0_1 t1 b0)], [Blk.row [Kd.int IntKind.i64, Kd.int IntKind.i64] (nx25_0_1 t1 b0)]) else bif xc25_0_0 t1 b0 then some (Ex.exit (nat_lit 1048576), [], [Blk.row [Kd.int IntKind.i64, Kd.int IntKind.i64] b0]) else none := by
  have h : roundV (cfg Try.prog tab 100000 (gk k31s 30) (selL 2 ls25_2 rest) 25 1 j25.ntmps) (loopAt j25 0) [0, 1] [0] [] [0] [AV.rf (nat_lit 0) [Kd.int IntKind.i64, Kd.int IntKind.i64], AV.int IntKind.i64 t1] [Blk.row [Kd.int IntKind.i64, Kd.int IntKind.i64] b0] = bif (spI g25_2 n25_2 y25_2 z25_2 d25_2 ((t1, b0), t1, IntKind.i64.wrap (IntKind.i64.wrap ((2 : Int) * t1) + (1 : Int)))).fst then bif rn25_0_1 t1 b0 != t1 then bif decide ((0 : Int) ≤ rn25_0_1 t1 b0) && decide (rn25_0_1 t1 b0 < (↑b0.length : Int)) then bif decide ((0 : Int) ≤ t1) && decide (t1 < (↑b0.length : Int)) then bif decide ((0 : Int) ≤ t1) && decide (t1 < (↑b0.length : Int)) then bif bif decide ((0 : Int) ≤ rn25_0_1 t1 b0) then decide (rn25_0_1 t1 b0 < rn25_0_2 t1 b0) else false then some (Ex.norm, [AV.rf (nat_lit 0) [Kd.int IntKind.i64, Kd.int IntKind.i64], AV.int IntKind.i64 (rn25_0_1 t1 b0)], [Blk.row [Kd.int IntKind.i64, Kd.int IntKind.i64] ((b0.set t1.toNat [AV.int IntKind.i64 (intOf ((b0.getD (rn25_0_1 t1 b0).toNat []).getD (0 : Nat) AV.junk)), AV.int IntKind.i64 (intOf ((b0.getD (rn25_0_1 t1 b0).toNat []).getD ((0 : Nat) + (1 : Nat)) AV.junk))]).set (rn25_0_1 t1 b0).toNat [AV.int IntKind.i64 (intOf ((b0.getD t1.toNat []).getD (0 : Nat) AV.junk)), AV.int IntKind.i64 (intOf ((b0.getD t1.toNat []).getD ((0 : Nat) + (1 : Nat)) AV.junk))])]) else none else none else none else none else some (Ex.exit (nat_lit 1048576), [], [Blk.row [Kd.int IntKind.i64, Kd.int IntKind.i64] b0]) else none := by kernel_rfl
  rw [h]
  clear h
  unfold go25_0 nx25_0_1 xc25_0_0
  generalize ((spI g25_2 n25_2 y25_2 z25_2 d25_2 ((t1, b0), t1, IntKind.i64.wrap (IntKind.i64.wrap ((2 : Int) * t1) + (1 : Int)))).fst) = c0
  generalize (decide ((0 : Int) ≤ rn25_0_1 t1 b0) && decide (rn25_0_1 t1 b0 < (↑b0.length : Int))) = c1
  generalize (decide ((0 : Int) ≤ t1) && decide (t1 < (↑b0.length : Int))) = c2
  generalize (decide ((0 : Int) ≤ rn25_0_1 t1 b0)) = c3
  generalize (decide (rn25_0_1 t1 b0 < rn25_0_2 t1 b0)) = c4
  generalize (rn25_0_1 t1 b0 != t1) = c5
  cases c0
  · skip
    rfl
  · skip
    cases c5
    · skip
      rfl
    · skip
      cases c1
      · skip
        rfl
      · skip
        cases c2
        · skip
          rfl
        · skip
          cases c3
          · skip
            rfl
          · skip
            cases c4
            · skip
              rfl
            · skip
              rfl
abbrev pl25_0 : Type := Unit
abbrev sl25_0 : Type := Int × (List (List AV))
noncomputable def vt25_0 (a : pl25_0 × sl25_0) : List AV := [AV.rf (nat_lit 0) [Kd.int IntKind.i64, Kd.int IntKind.i64], AV.int IntKind.i64 a.2.1]
noncomputable def vc25_0 (a : pl25_0 × sl25_0) : List Blk := [Blk.row [Kd.int IntKind.i64, Kd.int IntKind.i64] a.2.2]
noncomputable def de25_0 (vt : List AV) (vc : List Blk) : Option (pl25_0 × sl25_0) :=
  match vt with
  | [qa0, qa1] => (match vc with
  | [qb0] => (match qa0 with
  | AV.rf (0) [Kd.int IntKind.i64, Kd.int IntKind.i64] => (match qa1 with
  | AV.int IntKind.i64 t1 => (match qb0 with
  | Blk.row [Kd.int IntKind.i64, Kd.int IntKind.i64] b0 => (some ((), (t1, b0)))
  | _ => none)
  | _ => none)
  | _ => none)
  | _ => none)
  | _ => none
theorem de25_0_ok (vt : List AV) (vc : List Blk) (a : pl25_0 × sl25_0) (h : de25_0 vt vc = some a) : vt = vt25_0 a ∧ vc = vc25_0 a := by
  unfold de25_0 at h
  split at h
  rotate_left
  · cases h
  split at h
  rotate_left
  · cases h
  split at h
  rotate_left
  · cases h
  split at h
  rotate_left
  · cases h
  split at h
  rotate_left
  · cases h
  injection h with h
  subst h
  exact ⟨rfl, rfl⟩
noncomputable def g25_0 (p : pl25_0) (s : sl25_0) : Bool := go25_0 s.1 s.2
noncomputable def n25_0 (p : pl25_0) (s : sl25_0) : sl25_0 := (rn25_0_1 s.1 s.2, nx25_0_1 s.1 s.2)
noncomputable def y25_0 (p : pl25_0) (s : sl25_0) : List (Bool × Out) := []
noncomputable def z25_0 (p : pl25_0) (s : sl25_0) : Bool := xc25_0_0 s.1 s.2
noncomputable def d25_0 (p : pl25_0) (s : sl25_0) : Out := (Ex.exit (nat_lit 1048576), [], [Blk.row [Kd.int IntKind.i64, Kd.int IntKind.i64] s.2])
noncomputable def ls25_0 : St → Option (Bool × List (Bool × Ex × St) × Ex × St) := lspOf [0, 1] [0] [] [0] j25.ntmps (1 + tab.nid 25) de25_0 (spI g25_0 n25_0 y25_0 z25_0 d25_0)
theorem lo25_0 (rest : Lsp) : LoopOK1 (cfg Try.prog tab 100000 (gk k31s 30) (selL 2 ls25_2 (selL 0 ls25_0 rest)) 25 1 j25.ntmps) (loopAt j25 0) := LoopOK1.iter (i := 0) (by kernel_rfl) [0, 1] [0] [] [0] vt25_0 vc25_0 de25_0 g25_0 n25_0 y25_0 z25_0 d25_0 (fun _ => rfl) de25_0_ok (fun p s => rd25_0 (selL 0 ls25_0 rest) (s.1) (s.2)) (fun _ _ => rfl)
noncomputable def lsp25 : Lsp := (selL 2 ls25_2 (selL 0 ls25_0 noLsp))
theorem loops25 : ∀ c, j25.body = some c → LoopsOK (cfg Try.prog tab 100000 (gk k31s 30) lsp25 25 1 j25.ntmps) c := loops_of [0, 2] (by kernel_rfl) (by kernel_rfl) (fun i hi => by
  simp only [List.mem_cons, List.not_mem_nil, or_false] at hi
  rcases hi with rfl | rfl
  · exact lo25_0 noLsp
  · exact lo25_2 (selL 0 ls25_0 noLsp))
noncomputable def rev25_0 (es : List (List AV)) (i : Int) : sl25_0 := finL (g25_0 ()) (n25_0 ()) (i, es)
noncomputable def vev25_0 (es : List (List AV)) (i : Int) : List (List AV) := (rev25_0 es i).snd
noncomputable def vev25_1 (es : List (List AV)) (i : Int) : Bool := bif (spI g25_0 n25_0 y25_0 z25_0 d25_0 ((), i, es)).fst then true else false
theorem ev25 (es : List (List AV)) (i : Int) : evFin (cfg Try.prog tab 100000 (gk k31s 30) lsp25 25 ([.row [.int .i64, .int .i64] es] : List Blk).length j25.ntmps) ([.row [.int .i64, .int .i64] es] : List Blk).length j25.resultTypes.toList j25 [.rf 0 [.int .i64, .int .i64], .int .i64 i] [.row [.int .i64, .int .i64] es] = bif vev25_1 es i then some (true, AV.tup [], [Blk.row [Kd.int IntKind.i64, Kd.int IntKind.i64] (vev25_0 es i)]) else none := by
  have h : evFin (cfg Try.prog tab 100000 (gk k31s 30) lsp25 25 ([.row [.int .i64, .int .i64] es] : List Blk).length j25.ntmps) ([.row [.int .i64, .int .i64] es] : List Blk).length j25.resultTypes.toList j25 [.rf 0 [.int .i64, .int .i64], .int .i64 i] [.row [.int .i64, .int .i64] es] = bif (spI g25_0 n25_0 y25_0 z25_0 d25_0 ((), i, es)).fst then some (true, AV.tup [], [Blk.row [Kd.int IntKind.i64, Kd.int IntKind.i64] (rev25_0 es i).snd]) else none := by kernel_rfl
  rw [h]
  clear h
  unfold vev25_0 vev25_1
  generalize ((spI g25_0 n25_0 y25_0 z25_0 d25_0 ((), i, es)).fst) = c0
  cases c0
  · skip
    rfl
  · skip
    rfl
-- spec vev25_1 es i ;; (true, AV.tup [], [Blk.row [Kd.int IntKind.i64, Kd.int IntKind.i64] (vev25_0 es i)])
noncomputable def sp25 : List AV → List Blk → Option (Bool × AV × List Blk)
  | [.rf 0 [.int .i64, .int .i64], .int .i64 i], [.row [.int .i64, .int .i64] es] => spW (vev25_1 es i) (some ((true, AV.tup [], [Blk.row [Kd.int IntKind.i64, Kd.int IntKind.i64] (vev25_0 es i)])))
  | _, _ => none
noncomputable def k25 : Gam := fun f T C => match Nat.beq f 25 with
  | true => (sp25 T C).or (k31s f T C)
  | false => k31s f T C
theorem k25_ok : GamOK Try.prog k25 := by
  intro f T C r outs h
  unfold k25 at h
  cases hf : Nat.beq f 25 with
  | false => rw [hf] at h; exact k31s_ok f T C r outs h
  | true =>
    have hf' := Nat.eq_of_beq_eq_true hf
    subst hf'
    rw [hf] at h
    dsimp only at h
    cases hs : sp25 T C with
    | none => rw [hs] at h; exact k31s_ok _ T C r outs h
    | some x =>
      rw [hs] at h
      have hx : x = (true, r, outs) := by simpa using h
      subst hx
      unfold sp25 at hs
      split at hs
      · rename_i i es
        obtain ⟨hb, rfl, rfl⟩ := spT_inv hs
        have he := ev25 es i
        rw [hb, cond_true] at he
        obtain ⟨r0, o0, h0, he⟩ := evFin_inv he
        obtain ⟨h1, h2⟩ := fn_okJ mixed plain (gk_ok k31s_ok 30) Try.func25 loops25 h0
        exact ⟨h1, h2.fin he⟩
      · cases hs
noncomputable def rn25s_2_0 (t0i : Nat) (t0n : Nat) (t0c : Nat) (t1 : Int) (t4 : Int) (t5 : Int) (b0 : List (List AV)) : Int := IntKind.i64.wrap (IntKind.i64.wrap ((2 : Int) * t1) + (2 : Int))
noncomputable def rn25s_2_1 (t0i : Nat) (t0n : Nat) (t0c : Nat) (t1 : Int) (t4 : Int) (t5 : Int) (b0 : List (List AV)) : List (List AV) := List.take t0n (List.drop t0i b0)
noncomputable def go25s_2 (t0i : Nat) (t0n : Nat) (t0c : Nat) (t1 : Int) (t4 : Int) (t5 : Int) (b0 : List (List AV)) : Bool := bif bif decide (t5 ≤ rn25s_2_0 t0i t0n t0c t1 t4 t5 b0) then decide (t5 < (↑t0n : Int)) else false then vev29_1 Tk.lent (rn25s_2_1 t0i t0n t0c t1 t4 t5 b0) t5 t4 else false
noncomputable def nx25s_2_4 (t0i : Nat) (t0n : Nat) (t0c : Nat) (t1 : Int) (t4 : Int) (t5 : Int) (b0 : List (List AV)) : Int := bif vev29_0 Tk.lent (rn25s_2_1 t0i t0n t0c t1 t4 t5 b0) t5 t4 then t5 else t4
noncomputable def nx25s_2_5 (t0i : Nat) (t0n : Nat) (t0c : Nat) (t1 : Int) (t4 : Int) (t5 : Int) (b0 : List (List AV)) : Int := IntKind.i64.wrap (t5 + (1 : Int))
noncomputable def xc25s_2_0 (t0i : Nat) (t0n : Nat) (t0c : Nat) (t1 : Int) (t4 : Int) (t5 : Int) (b0 : List (List AV)) : Bool := bif bif decide (t5 ≤ rn25s_2_0 t0i t0n t0c t1 t4 t5 b0) then decide (t5 < (↑t0n : Int)) else false then false else true
theorem rd25s_2 (rest : Lsp) (t0i : Nat) (t0n : Nat) (t0c : Nat) (t1 : Int) (t4 : Int) (t5 : Int) (b0 : List (List AV)) : roundV (cfg Try.prog tab 100000 (gk k25 30) rest 25 1 j25.ntmps) (loopAt j25 2) [0, 1, 4, 5] [0] [0, 1, 4] [0] [AV.rs (nat_lit 0) [Kd.int IntKind.i64, Kd.int IntKind.i64] t0i t0n t0c, AV.int IntKind.i64 t1, AV.int IntKind.i64 t4, AV.int IntKind.i64 t5] [Blk.row [Kd.int IntKind.i64, Kd.int IntKind.i64] b0] = bif go25s_2 t0i t0n t0c t1 t4 t5 b0 then some (Ex.norm, [AV.rs (nat_lit 0) [Kd.int IntKind.i64, Kd.int IntKind.i64] t0i t0n t0c, AV.int IntKind.i64 t1, AV.int IntKind.i64 (nx25s_2_4 t0i t0n t0c t1 t4 t5 b0), AV.int IntKind.i64 (nx25s_2_5 t0i t0n t0c t1 t4 t5 b0)], [Blk.row [Kd.int IntKind.i64, Kd.int IntKind.i64] b0]) else bif xc25s_2_0 t0i t0n t0c t1 t4 t5 b0 then some (Ex.exit (nat_lit 0), [AV.rs (nat_lit 0) [Kd.int IntKind.i64, Kd.int IntKind.i64] t0i t0n t0c, AV.int IntKind.i64 t1, AV.int IntKind.i64 t4], [Blk.row [Kd.int IntKind.i64, Kd.int IntKind.i64] b0]) else none := by
  have h : roundV (cfg Try.prog tab 100000 (gk k25 30) rest 25 1 j25.ntmps) (loopAt j25 2) [0, 1, 4, 5] [0] [0, 1, 4] [0] [AV.rs (nat_lit 0) [Kd.int IntKind.i64, Kd.int IntKind.i64] t0i t0n t0c, AV.int IntKind.i64 t1, AV.int IntKind.i64 t4, AV.int IntKind.i64 t5] [Blk.row [Kd.int IntKind.i64, Kd.int IntKind.i64] b0] = bif bif decide (t5 ≤ rn25s_2_0 t0i t0n t0c t1 t4 t5 b0) then true else true then bif bif decide (t5 ≤ rn25s_2_0 t0i t0n t0c t1 t4 t5 b0) then bif true then decide (t5 < (↑t0n : Int)) else false else false then bif vev29_1 Tk.lent (rn25s_2_1 t0i t0n t0c t1 t4 t5 b0) t5 t4 then bif vev29_0 Tk.lent (rn25s_2_1 t0i t0n t0c t1 t4 t5 b0) t5 t4 then some (Ex.norm, [AV.rs (nat_lit 0) [Kd.int IntKind.i64, Kd.int IntKind.i64] t0i t0n t0c, AV.int IntKind.i64 t1, AV.int IntKind.i64 t5, AV.int IntKind.i64 (IntKind.i64.wrap (t5 + (1 : Int)))], [Blk.row [Kd.int IntKind.i64, Kd.int IntKind.i64] b0]) else some (Ex.norm, [AV.rs (nat_lit 0) [Kd.int IntKind.i64, Kd.int IntKind.i64] t0i t0n t0c, AV.int IntKind.i64 t1, AV.int IntKind.i64 t4, AV.int IntKind.i64 (IntKind.i64.wrap (t5 + (1 : Int)))], [Blk.row [Kd.int IntKind.i64, Kd.int IntKind.i64] b0]) else none else some (Ex.exit (nat_lit 0), [AV.rs (nat_lit 0) [Kd.int IntKind.i64, Kd.int IntKind.i64] t0i t0n t0c, AV.int IntKind.i64 t1, AV.int IntKind.i64 t4], [Blk.row [Kd.int IntKind.i64, Kd.int IntKind.i64] b0]) else none := by kernel_rfl
  rw [h]
  clear h
  unfold go25s_2 nx25s_2_4 nx25s_2_5 xc25s_2_0
  generalize (decide (t5 ≤ rn25s_2_0 t0i t0n t0c t1 t4 t5 b0)) = c0
  generalize (decide (t5 < (↑t0n : Int))) = c1
  generalize (vev29_0 Tk.lent (rn25s_2_1 t0i t0n t0c t1 t4 t5 b0) t5 t4) = c2
  generalize (vev29_1 Tk.lent (rn25s_2_1 t0i t0n t0c t1 t4 t5 b0) t5 t4) = c3
  cases c0
  · skip
    rfl
  · skip
    cases c1
    · skip
      rfl
    · skip
      cases c3
      · skip
        rfl
      · skip
        cases c2
        · skip
          rfl
        · skip
          rfl
abbrev pl25s_2 : Type := Nat × Nat × Nat × Int × (List (List AV))
abbrev sl25s_2 : Type := Int × Int
noncomputable def vt25s_2 (a : pl25s_2 × sl25s_2) : List AV := [AV.rs (nat_lit 0) [Kd.int IntKind.i64, Kd.int IntKind.i64] a.1.1 a.1.2.1 a.1.2.2.1, AV.int IntKind.i64 a.1.2.2.2.1, AV.int IntKind.i64 a.2.1, AV.int IntKind.i64 a.2.2]
noncomputable def vc25s_2 (a : pl25s_2 × sl25s_2) : List Blk := [Blk.row [Kd.int IntKind.i64, Kd.int IntKind.i64] a.1.2.2.2.2]
noncomputable def de25s_2 (vt : List AV) (vc : List Blk) : Option (pl25s_2 × sl25s_2) :=
  match vt with
  | [qa0, qa1, qa2, qa3] => (match vc with
  | [qb0] => (match qa0 with
  | AV.rs (0) [Kd.int IntKind.i64, Kd.int IntKind.i64] t0i t0n t0c => (match qa1 with
  | AV.int IntKind.i64 t1 => (match qa2 with
  | AV.int IntKind.i64 t4 => (match qa3 with
  | AV.int IntKind.i64 t5 => (match qb0 with
  | Blk.row [Kd.int IntKind.i64, Kd.int IntKind.i64] b0 => (some ((t0i, t0n, t0c, t1, b0), (t4, t5)))
  | _ => none)
  | _ => none)
  | _ => none)
  | _ => none)
  | _ => none)
  | _ => none)
  | _ => none
theorem de25s_2_ok (vt : List AV) (vc : List Blk) (a : pl25s_2 × sl25s_2) (h : de25s_2 vt vc = some a) : vt = vt25s_2 a ∧ vc = vc25s_2 a := by
  unfold de25s_2 at h
  split at h
  rotate_left
  · cases h
  split at h
  rotate_left
  · cases h
  split at h
  rotate_left
  · cases h
  split at h
  rotate_left
  · cases h
  split at h
  rotate_left
  · cases h
  split at h
  rotate_left
  · cases h
  split at h
  rotate_left
  · cases h
  injection h with h
  subst h
  exact ⟨rfl, rfl⟩
noncomputable def g25s_2 (p : pl25s_2) (s : sl25s_2) : Bool := go25s_2 p.1 p.2.1 p.2.2.1 p.2.2.2.1 s.1 s.2 p.2.2.2.2
noncomputable def n25s_2 (p : pl25s_2) (s : sl25s_2) : sl25s_2 := (nx25s_2_4 p.1 p.2.1 p.2.2.1 p.2.2.2.1 s.1 s.2 p.2.2.2.2, nx25s_2_5 p.1 p.2.1 p.2.2.1 p.2.2.2.1 s.1 s.2 p.2.2.2.2)
noncomputable def y25s_2 (p : pl25s_2) (s : sl25s_2) : List (Bool × Out) := []
noncomputable def z25s_2 (p : pl25s_2) (s : sl25s_2) : Bool := xc25s_2_0 p.1 p.2.1 p.2.2.1 p.2.2.2.1 s.1 s.2 p.2.2.2.2
noncomputable def d25s_2 (p : pl25s_2) (s : sl25s_2) : Out := (Ex.exit (nat_lit 0), [AV.rs (nat_lit 0) [Kd.int IntKind.i64, Kd.int IntKind.i64] p.1 p.2.1 p.2.2.1, AV.int IntKind.i64 p.2.2.2.1, AV.int IntKind.i64 s.1], [Blk.row [Kd.int IntKind.i64, Kd.int IntKind.i64] p.2.2.2.2])
noncomputable def ls25s_2 : St → Option (Bool × List (Bool × Ex × St) × Ex × St) := lspOf [0, 1, 4, 5] [0] [0, 1, 4] [0] j25.ntmps (1 + tab.nid 25) de25s_2 (spI g25s_2 n25s_2 y25s_2 z25s_2 d25s_2)
theorem lo25s_2 (rest : Lsp) : LoopOK1 (cfg Try.prog tab 100000 (gk k25 30) (selL 2 ls25s_2 rest) 25 1 j25.ntmps) (loopAt j25 2) := LoopOK1.iter (i := 2) (by kernel_rfl) [0, 1, 4, 5] [0] [0, 1, 4] [0] vt25s_2 vc25s_2 de25s_2 g25s_2 n25s_2 y25s_2 z25s_2 d25s_2 (fun _ => rfl) de25s_2_ok (fun p s => rd25s_2 (selL 2 ls25s_2 rest) (p.1) (p.2.1) (p.2.2.1) (p.2.2.2.1) (s.1) (s.2) (p.2.2.2.2)) (fun _ _ => rfl)
noncomputable def rn25s_0_0 (t0i : Nat) (t0n : Nat) (t0c : Nat) (t1 : Int) (b0 : List (List AV)) : sl25s_2 := finL (g25s_2 (t0i, t0n, t0c, t1, b0)) (n25s_2 (t0i, t0n, t0c, t1, b0)) (t1, IntKind.i64.wrap (IntKind.i64.wrap ((2 : Int) * t1) + (1 : Int)))
noncomputable def rn25s_0_1 (t0i : Nat) (t0n : Nat) (t0c : Nat) (t1 : Int) (b0 : List (List AV)) : Int := (rn25s_0_0 t0i t0n t0c t1 b0).fst
noncomputable def go25s_0 (t0i : Nat) (t0n : Nat) (t0c : Nat) (t1 : Int) (b0 : List (List AV)) : Bool := bif (spI g25s_2 n25s_2 y25s_2 z25s_2 d25s_2 ((t0i, t0n, t0c, t1, b0), t1, IntKind.i64.wrap (IntKind.i64.wrap ((2 : Int) * t1) + (1 : Int)))).fst then bif rn25s_0_1 t0i t0n t0c t1 b0 != t1 then bif decide ((0 : Int) ≤ rn25s_0_1 t0i t0n t0c t1 b0) && decide (rn25s_0_1 t0i t0n t0c t1 b0 < (↑t0n : Int)) then decide ((0 : Int) ≤ t1) && decide (t1 < (↑t0n : Int)) else false else false else false
noncomputable def nx25s_0_4 (t0i : Nat) (t0n : Nat) (t0c : Nat) (t1 : Int) (b0 : List (List AV)) : List (List AV) := (b0.set (t1.toNat + t0i) [AV.int IntKind.i64 (intOf ((b0.getD ((rn25s_0_1 t0i t0n t0c t1 b0).toNat + t0i) []).getD (0 : Nat) AV.junk)), AV.int IntKind.i64 (intOf ((b0.getD ((rn25s_0_1 t0i t0n t0c t1 b0).toNat + t0i) []).getD ((0 : Nat) + (1 : Nat)) AV.junk))]).set ((rn25s_0_1 t0i t0n t0c t1 b0).toNat + t0i) [AV.int IntKind.i64 (intOf ((b0.getD (t1.toNat + t0i) []).getD (0 : Nat) AV.junk)), AV.int IntKind.i64 (intOf ((b0.getD (t1.toNat + t0i) []).getD ((0 : Nat) + (1 : Nat)) AV.junk))]
noncomputable def xc25s_0_0 (t0i : Nat) (t0n : Nat) (t0c : Nat) (t1 : Int) (b0 : List (List AV)) : Bool := bif (spI g25s_2 n25s_2 y25s_2 z25s_2 d25s_2 ((t0i, t0n, t0c, t1, b0), t1, IntKind.i64.wrap (IntKind.i64.wrap ((2 : Int) * t1) + (1 : Int)))).fst then bif rn25s_0_1 t0i t0n t0c t1 b0 != t1 then false else true else false
theorem rd25s_0 (rest : Lsp) (t0i : Nat) (t0n : Nat) (t0c : Nat) (t1 : Int) (b0 : List (List AV)) : roundV (cfg Try.prog tab 100000 (gk k25 30) (selL 2 ls25s_2 rest) 25 1 j25.ntmps) (loopAt j25 0) [0, 1] [0] [] [0] [AV.rs (nat_lit 0) [Kd.int IntKind.i64, Kd.int IntKind.i64] t0i t0n t0c, AV.int IntKind.i64 t1] [Blk.row [Kd.int IntKind.i64, Kd.int IntKind.i64] b0] = bif go25s_0 t0i t0n t0c t1 b0 then some (Ex.norm, [AV.rs (nat_lit 0) [Kd.int IntKind.i64, Kd.int IntKind.i64] t0i t0n t0c, AV.int IntKind.i64 (rn25s_0_1 t0i t0n t0c t1 b0)], [Blk.row [Kd.int IntKind.i64, Kd.int IntKind.i64] (nx25s_0_4 t0i t0n t0c t1 b0)]) else bif xc25s_0_0 t0i t0n t0c t1 b0 then some (Ex.exit (nat_lit 1048576), [], [Blk.row [Kd.int IntKind.i64, Kd.int IntKind.i64] b0]) else none := by
  have h : roundV (cfg Try.prog tab 100000 (gk k25 30) (selL 2 ls25s_2 rest) 25 1 j25.ntmps) (loopAt j25 0) [0, 1] [0] [] [0] [AV.rs (nat_lit 0) [Kd.int IntKind.i64, Kd.int IntKind.i64] t0i t0n t0c, AV.int IntKind.i64 t1] [Blk.row [Kd.int IntKind.i64, Kd.int IntKind.i64] b0] = bif (spI g25s_2 n25s_2 y25s_2 z25s_2 d25s_2 ((t0i, t0n, t0c, t1, b0), t1, IntKind.i64.wrap (IntKind.i64.wrap ((2 : Int) * t1) + (1 : Int)))).fst then bif rn25s_0_1 t0i t0n t0c t1 b0 != t1 then bif decide ((0 : Int) ≤ rn25s_0_1 t0i t0n t0c t1 b0) && decide (rn25s_0_1 t0i t0n t0c t1 b0 < (↑t0n : Int)) then bif decide ((0 : Int) ≤ t1) && decide (t1 < (↑t0n : Int)) then bif decide ((0 : Int) ≤ t1) && decide (t1 < (↑t0n : Int)) then bif decide ((0 : Int) ≤ rn25s_0_1 t0i t0n t0c t1 b0) && decide (rn25s_0_1 t0i t0n t0c t1 b0 < (↑t0n : Int)) then some (Ex.norm, [AV.rs (nat_lit 0) [Kd.int IntKind.i64, Kd.int IntKind.i64] t0i t0n t0c, AV.int IntKind.i64 (rn25s_0_1 t0i t0n t0c t1 b0)], [Blk.row [Kd.int IntKind.i64, Kd.int IntKind.i64] ((b0.set (t1.toNat + t0i) [AV.int IntKind.i64 (intOf ((b0.getD ((rn25s_0_1 t0i t0n t0c t1 b0).toNat + t0i) []).getD (0 : Nat) AV.junk)), AV.int IntKind.i64 (intOf ((b0.getD ((rn25s_0_1 t0i t0n t0c t1 b0).toNat + t0i) []).getD ((0 : Nat) + (1 : Nat)) AV.junk))]).set ((rn25s_0_1 t0i t0n t0c t1 b0).toNat + t0i) [AV.int IntKind.i64 (intOf ((b0.getD (t1.toNat + t0i) []).getD (0 : Nat) AV.junk)), AV.int IntKind.i64 (intOf ((b0.getD (t1.toNat + t0i) []).getD ((0 : Nat) + (1 : Nat)) AV.junk))])]) else none else none else none else none else some (Ex.exit (nat_lit 1048576), [], [Blk.row [Kd.int IntKind.i64, Kd.int IntKind.i64] b0]) else none := by kernel_rfl
  rw [h]
  clear h
  unfold go25s_0 nx25s_0_4 xc25s_0_0
  generalize ((spI g25s_2 n25s_2 y25s_2 z25s_2 d25s_2 ((t0i, t0n, t0c, t1, b0), t1, IntKind.i64.wrap (IntKind.i64.wrap ((2 : Int) * t1) + (1 : Int)))).fst) = c0
  generalize (decide ((0 : Int) ≤ rn25s_0_1 t0i t0n t0c t1 b0) && decide (rn25s_0_1 t0i t0n t0c t1 b0 < (↑t0n : Int))) = c1
  generalize (decide ((0 : Int) ≤ t1) && decide (t1 < (↑t0n : Int))) = c2
  generalize (rn25s_0_1 t0i t0n t0c t1 b0 != t1) = c3
  cases c0
  · skip
    rfl
  · skip
    cases c3
    · skip
      rfl
    · skip
      cases c1
      · skip
        rfl
      · skip
        cases c2
        · skip
          rfl
        · skip
          rfl
abbrev pl25s_0 : Type := Nat × Nat × Nat
abbrev sl25s_0 : Type := Int × (List (List AV))
noncomputable def vt25s_0 (a : pl25s_0 × sl25s_0) : List AV := [AV.rs (nat_lit 0) [Kd.int IntKind.i64, Kd.int IntKind.i64] a.1.1 a.1.2.1 a.1.2.2, AV.int IntKind.i64 a.2.1]
noncomputable def vc25s_0 (a : pl25s_0 × sl25s_0) : List Blk := [Blk.row [Kd.int IntKind.i64, Kd.int IntKind.i64] a.2.2]
noncomputable def de25s_0 (vt : List AV) (vc : List Blk) : Option (pl25s_0 × sl25s_0) :=
  match vt with
  | [qa0, qa1] => (match vc with
  | [qb0] => (match qa0 with
  | AV.rs (0) [Kd.int IntKind.i64, Kd.int IntKind.i64] t0i t0n t0c => (match qa1 with
  | AV.int IntKind.i64 t1 => (match qb0 with
  | Blk.row [Kd.int IntKind.i64, Kd.int IntKind.i64] b0 => (some ((t0i, t0n, t0c), (t1, b0)))
  | _ => none)
  | _ => none)
  | _ => none)
  | _ => none)
  | _ => none
theorem de25s_0_ok (vt : List AV) (vc : List Blk) (a : pl25s_0 × sl25s_0) (h : de25s_0 vt vc = some a) : vt = vt25s_0 a ∧ vc = vc25s_0 a := by
  unfold de25s_0 at h
  split at h
  rotate_left
  · cases h
  split at h
  rotate_left
  · cases h
  split at h
  rotate_left
  · cases h
  split at h
  rotate_left
  · cases h
  split at h
  rotate_left
  · cases h
  injection h with h
  subst h
  exact ⟨rfl, rfl⟩
noncomputable def g25s_0 (p : pl25s_0) (s : sl25s_0) : Bool := go25s_0 p.1 p.2.1 p.2.2 s.1 s.2
noncomputable def n25s_0 (p : pl25s_0) (s : sl25s_0) : sl25s_0 := (rn25s_0_1 p.1 p.2.1 p.2.2 s.1 s.2, nx25s_0_4 p.1 p.2.1 p.2.2 s.1 s.2)
noncomputable def y25s_0 (p : pl25s_0) (s : sl25s_0) : List (Bool × Out) := []
noncomputable def z25s_0 (p : pl25s_0) (s : sl25s_0) : Bool := xc25s_0_0 p.1 p.2.1 p.2.2 s.1 s.2
noncomputable def d25s_0 (p : pl25s_0) (s : sl25s_0) : Out := (Ex.exit (nat_lit 1048576), [], [Blk.row [Kd.int IntKind.i64, Kd.int IntKind.i64] s.2])
noncomputable def ls25s_0 : St → Option (Bool × List (Bool × Ex × St) × Ex × St) := lspOf [0, 1] [0] [] [0] j25.ntmps (1 + tab.nid 25) de25s_0 (spI g25s_0 n25s_0 y25s_0 z25s_0 d25s_0)
theorem lo25s_0 (rest : Lsp) : LoopOK1 (cfg Try.prog tab 100000 (gk k25 30) (selL 2 ls25s_2 (selL 0 ls25s_0 rest)) 25 1 j25.ntmps) (loopAt j25 0) := LoopOK1.iter (i := 0) (by kernel_rfl) [0, 1] [0] [] [0] vt25s_0 vc25s_0 de25s_0 g25s_0 n25s_0 y25s_0 z25s_0 d25s_0 (fun _ => rfl) de25s_0_ok (fun p s => rd25s_0 (selL 0 ls25s_0 rest) (p.1) (p.2.1) (p.2.2) (s.1) (s.2)) (fun _ _ => rfl)
noncomputable def lsp25s : Lsp := (selL 2 ls25s_2 (selL 0 ls25s_0 noLsp))
theorem loops25s : ∀ c, j25.body = some c → LoopsOK (cfg Try.prog tab 100000 (gk k25 30) lsp25s 25 1 j25.ntmps) c := loops_of [0, 2] (by kernel_rfl) (by kernel_rfl) (fun i hi => by
  simp only [List.mem_cons, List.not_mem_nil, or_false] at hi
  rcases hi with rfl | rfl
  · exact lo25s_0 noLsp
  · exact lo25s_2 (selL 0 ls25s_0 noLsp))
noncomputable def rev25s_0 (es : List (List AV)) (n : Nat) (cp : Nat) (i : Int) : sl25s_0 := finL (g25s_0 ((0 : Nat), n, cp)) (n25s_0 ((0 : Nat), n, cp)) (i, es)
noncomputable def vev25s_0 (es : List (List AV)) (n : Nat) (cp : Nat) (i : Int) : List (List AV) := (rev25s_0 es n cp i).snd
noncomputable def vev25s_1 (es : List (List AV)) (n : Nat) (cp : Nat) (i : Int) : Bool := bif (spI g25s_0 n25s_0 y25s_0 z25s_0 d25s_0 (((0 : Nat), n, cp), i, es)).fst then true else false
theorem ev25s (es : List (List AV)) (n : Nat) (cp : Nat) (i : Int) : evFin (cfg Try.prog tab 100000 (gk k25 30) lsp25s 25 ([.row [.int .i64, .int .i64] es] : List Blk).length j25.ntmps) ([.row [.int .i64, .int .i64] es] : List Blk).length j25.resultTypes.toList j25 [.rs 0 [.int .i64, .int .i64] 0 n cp, .int .i64 i] [.row [.int .i64, .int .i64] es] = bif vev25s_1 es n cp i then some (true, AV.tup [], [Blk.row [Kd.int IntKind.i64, Kd.int IntKind.i64] (vev25s_0 es n cp i)]) else none := by
  have h : evFin (cfg Try.prog tab 100000 (gk k25 30) lsp25s 25 ([.row [.int .i64, .int .i64] es] : List Blk).length j25.ntmps) ([.row [.int .i64, .int .i64] es] : List Blk).length j25.resultTypes.toList j25 [.rs 0 [.int .i64, .int .i64] 0 n cp, .int .i64 i] [.row [.int .i64, .int .i64] es] = bif (spI g25s_0 n25s_0 y25s_0 z25s_0 d25s_0 (((0 : Nat), n, cp), i, es)).fst then some (true, AV.tup [], [Blk.row [Kd.int IntKind.i64, Kd.int IntKind.i64] (rev25s_0 es n cp i).snd]) else none := by kernel_rfl
  rw [h]
  clear h
  unfold vev25s_0 vev25s_1
  generalize ((spI g25s_0 n25s_0 y25s_0 z25s_0 d25s_0 (((0 : Nat), n, cp), i, es)).fst) = c0
  cases c0
  · skip
    rfl
  · skip
    rfl
-- spec vev25s_1 es n cp i ;; (true, AV.tup [], [Blk.row [Kd.int IntKind.i64, Kd.int IntKind.i64] (vev25s_0 es n cp i)])
noncomputable def sp25s : List AV → List Blk → Option (Bool × AV × List Blk)
  | [.rs 0 [.int .i64, .int .i64] 0 n cp, .int .i64 i], [.row [.int .i64, .int .i64] es] => spW (vev25s_1 es n cp i) (some ((true, AV.tup [], [Blk.row [Kd.int IntKind.i64, Kd.int IntKind.i64] (vev25s_0 es n cp i)])))
  | _, _ => none
noncomputable def k25s : Gam := fun f T C => match Nat.beq f 25 with
  | true => (sp25s T C).or (k25 f T C)
  | false => k25 f T C
theorem k25s_ok : GamOK Try.prog k25s := by
  intro f T C r outs h
  unfold k25s at h
  cases hf : Nat.beq f 25 with
  | false => rw [hf] at h; exact k25_ok f T C r outs h
  | true =>
    have hf' := Nat.eq_of_beq_eq_true hf
    subst hf'
    rw [hf] at h
    dsimp only at h
    cases hs : sp25s T C with
    | none => rw [hs] at h; exact k25_ok _ T C r outs h
    | some x =>
      rw [hs] at h
      have hx : x = (true, r, outs) := by simpa using h
      subst hx
      unfold sp25s at hs
      split at hs
      · rename_i n cp i es
        obtain ⟨hb, rfl, rfl⟩ := spT_inv hs
        have he := ev25s es n cp i
        rw [hb, cond_true] at he
        obtain ⟨r0, o0, h0, he⟩ := evFin_inv he
        obtain ⟨h1, h2⟩ := fn_okJ mixed plain (gk_ok k25_ok 30) Try.func25 loops25s h0
        exact ⟨h1, h2.fin he⟩
      · cases hs
noncomputable def rn13_2_0 (t0k : Tk) (t0 : List (List AV)) (t3 : Int) : Int := IntKind.i64.wrap ((IntKind.i64.wrap (t3 - (1 : Int))).tdiv (2 : Int))
noncomputable def go13_2 (t0k : Tk) (t0 : List (List AV)) (t3 : Int) : Bool := bif decide (t3 < (↑t0.length : Int)) then bif vev29_1 t0k t0 t3 (rn13_2_0 t0k t0 t3) then bif vev29_0 t0k t0 t3 (rn13_2_0 t0k t0 t3) then false else true else false else false
noncomputable def nx13_2_2 (t0k : Tk) (t0 : List (List AV)) (t3 : Int) : Int := IntKind.i64.wrap (t3 + (1 : Int))
noncomputable def xc13_2_0 (t0k : Tk) (t0 : List (List AV)) (t3 : Int) : Bool := bif decide (t3 < (↑t0.length : Int)) then bif vev29_1 t0k t0 t3 (rn13_2_0 t0k t0 t3) then vev29_0 t0k t0 t3 (rn13_2_0 t0k t0 t3) else false else false
noncomputable def xc13_2_1 (t0k : Tk) (t0 : List (List AV)) (t3 : Int) : Bool := bif decide (t3 < (↑t0.length : Int)) then false else true
theorem rd13_2 (rest : Lsp) (t0k : Tk) (t0 : List (List AV)) (t3 : Int) : roundV (cfg Try.prog tab 100000 (gk k25s 30) rest 13 0 Try.f13.ntmps) (loopAt Try.f13 2) [0, 3] [] [2] [] [AV.sl t0k [Kd.int IntKind.i64, Kd.int IntKind.i64] t0, AV.int IntKind.i64 t3] [] = bif go13_2 t0k t0 t3 then some (Ex.norm, [AV.sl t0k [Kd.int IntKind.i64, Kd.int IntKind.i64] t0, AV.int IntKind.i64 (nx13_2_2 t0k t0 t3)], []) else bif xc13_2_0 t0k t0 t3 then some (Ex.ret, [AV.int IntKind.i64 (10 : Int)], []) else bif xc13_2_1 t0k t0 t3 then some (Ex.exit (nat_lit 0), [AV.junk], []) else none := by
  have h : roundV (cfg Try.prog tab 100000 (gk k25s 30) rest 13 0 Try.f13.ntmps) (loopAt Try.f13 2) [0, 3] [] [2] [] [AV.sl t0k [Kd.int IntKind.i64, Kd.int IntKind.i64] t0, AV.int IntKind.i64 t3] [] = bif decide (t3 < (↑t0.length : Int)) then bif vev29_1 t0k t0 t3 (rn13_2_0 t0k t0 t3) then bif vev29_0 t0k t0 t3 (rn13_2_0 t0k t0 t3) then some (Ex.ret, [AV.int IntKind.i64 (10 : Int)], []) else some (Ex.norm, [AV.sl t0k [Kd.int IntKind.i64, Kd.int IntKind.i64] t0, AV.int IntKind.i64 (IntKind.i64.wrap (t3 + (1 : Int)))], []) else none else some (Ex.exit (nat_lit 0), [AV.junk], []) := by kernel_rfl
  rw [h]
  clear h
  unfold go13_2 nx13_2_2 xc13_2_0 xc13_2_1
  generalize (decide (t3 < (↑t0.length : Int))) = c0
  generalize (vev29_0 t0k t0 t3 (rn13_2_0 t0k t0 t3)) = c1
  generalize (vev29_1 t0k t0 t3 (rn13_2_0 t0k t0 t3)) = c2
  cases c0
  · skip
    rfl
  · skip
    cases c2
    · skip
      rfl
    · skip
      cases c1
      · skip
        rfl
      · skip
        rfl
abbrev pl13_2 : Type := Tk × (List (List AV))
abbrev sl13_2 : Type := Int
noncomputable def vt13_2 (a : pl13_2 × sl13_2) : List AV := [AV.sl a.1.1 [Kd.int IntKind.i64, Kd.int IntKind.i64] a.1.2, AV.int IntKind.i64 a.2]
noncomputable def vc13_2 (a : pl13_2 × sl13_2) : List Blk := []
noncomputable def de13_2 (vt : List AV) (vc : List Blk) : Option (pl13_2 × sl13_2) :=
  match vt with
  | [qa0, qa1] => (match vc with
  | [] => (match qa0 with
  | AV.sl t0k [Kd.int IntKind.i64, Kd.int IntKind.i64] t0 => (match qa1 with
  | AV.int IntKind.i64 t3 => (some ((t0k, t0), t3))
  | _ => none)
  | _ => none)
  | _ => none)
  | _ => none
theorem de13_2_ok (vt : List AV) (vc : List Blk) (a : pl13_2 × sl13_2) (h : de13_2 vt vc = some a) : vt = vt13_2 a ∧ vc = vc13_2 a := by
  unfold de13_2 at h
  split at h
  rotate_left
  · cases h
  split at h
  rotate_left
  · cases h
  split at h
  rotate_left
  · cases h
  split at h
  rotate_left
  · cases h
  injection h with h
  subst h
  exact ⟨rfl, rfl⟩
noncomputable def g13_2 (p : pl13_2) (s : sl13_2) : Bool := go13_2 p.1 p.2 s
noncomputable def n13_2 (p : pl13_2) (s : sl13_2) : sl13_2 := nx13_2_2 p.1 p.2 s
noncomputable def y13_2 (p : pl13_2) (s : sl13_2) : List (Bool × Out) := [(xc13_2_0 p.1 p.2 s, (Ex.ret, [AV.int IntKind.i64 (10 : Int)], []))]
noncomputable def z13_2 (p : pl13_2) (s : sl13_2) : Bool := xc13_2_1 p.1 p.2 s
noncomputable def d13_2 (p : pl13_2) (s : sl13_2) : Out := (Ex.exit (nat_lit 0), [AV.junk], [])
noncomputable def ls13_2 : St → Option (Bool × List (Bool × Ex × St) × Ex × St) := lspOf [0, 3] [] [2] [] Try.f13.ntmps (0 + tab.nid 13) de13_2 (spI g13_2 n13_2 y13_2 z13_2 d13_2)
theorem lo13_2 (rest : Lsp) : LoopOK1 (cfg Try.prog tab 100000 (gk k25s 30) (selL 2 ls13_2 rest) 13 0 Try.f13.ntmps) (loopAt Try.f13 2) := LoopOK1.iter (i := 2) (by kernel_rfl) [0, 3] [] [2] [] vt13_2 vc13_2 de13_2 g13_2 n13_2 y13_2 z13_2 d13_2 (fun _ => rfl) de13_2_ok (fun p s => rd13_2 (selL 2 ls13_2 rest) (p.1) (p.2) s) (fun _ _ => rfl)
noncomputable def lsp13 : Lsp := (selL 2 ls13_2 noLsp)
theorem loops13 : ∀ c, Try.f13.body = some c → LoopsOK (cfg Try.prog tab 100000 (gk k25s 30) lsp13 13 0 Try.f13.ntmps) c := loops_of [2] (by kernel_rfl) (by kernel_rfl) (fun i hi => by
  simp only [List.mem_cons, List.not_mem_nil, or_false] at hi
  subst hi
  · exact lo13_2 noLsp)
noncomputable def rev13_0 (tk : Tk) (es : List (List AV)) : sl13_2 := finL (g13_2 (tk, es)) (n13_2 (tk, es)) (1 : Int)
noncomputable def vev13_0 (tk : Tk) (es : List (List AV)) : Int := bif xc13_2_0 tk es (rev13_0 tk es) then (10 : Int) else (0 : Int)
noncomputable def vev13_1 (tk : Tk) (es : List (List AV)) : Bool := bif (spI g13_2 n13_2 y13_2 z13_2 d13_2 ((tk, es), (1 : Int))).fst then true else false
theorem ev13 (tk : Tk) (es : List (List AV)) : evFin (cfg Try.prog tab 100000 (gk k25s 30) lsp13 13 ([] : List Blk).length Try.f13.ntmps) ([] : List Blk).length Try.f13.resultTypes.toList Try.f13 [.sl tk [.int .i64, .int .i64] es] [] = bif vev13_1 tk es then some (true, AV.int IntKind.i64 (vev13_0 tk es), []) else none := by
  have h : evFin (cfg Try.prog tab 100000 (gk k25s 30) lsp13 13 ([] : List Blk).length Try.f13.ntmps) ([] : List Blk).length Try.f13.resultTypes.toList Try.f13 [.sl tk [.int .i64, .int .i64] es] [] = bif (spI g13_2 n13_2 y13_2 z13_2 d13_2 ((tk, es), (1 : Int))).fst then bif xc13_2_0 tk es (rev13_0 tk es) then some (true, AV.int IntKind.i64 (10 : Int), []) else some (true, AV.int IntKind.i64 (0 : Int), []) else none := by kernel_rfl
  rw [h]
  clear h
  unfold vev13_0 vev13_1
  generalize ((spI g13_2 n13_2 y13_2 z13_2 d13_2 ((tk, es), (1 : Int))).fst) = c0
  generalize (xc13_2_0 tk es (rev13_0 tk es)) = c1
  cases c0
  · skip
    rfl
  · skip
    cases c1
    · skip
      rfl
    · skip
      rfl
-- spec vev13_1 tk es ;; (true, AV.int IntKind.i64 (vev13_0 tk es), [])
noncomputable def sp13 : List AV → List Blk → Option (Bool × AV × List Blk)
  | [.sl tk [.int .i64, .int .i64] es], [] => spW (vev13_1 tk es) (some ((true, AV.int IntKind.i64 (vev13_0 tk es), [])))
  | _, _ => none
noncomputable def k13 : Gam := fun f T C => match Nat.beq f 13 with
  | true => (sp13 T C).or (k25s f T C)
  | false => k25s f T C
theorem k13_ok : GamOK Try.prog k13 := by
  intro f T C r outs h
  unfold k13 at h
  cases hf : Nat.beq f 13 with
  | false => rw [hf] at h; exact k25s_ok f T C r outs h
  | true =>
    have hf' := Nat.eq_of_beq_eq_true hf
    subst hf'
    rw [hf] at h
    dsimp only at h
    cases hs : sp13 T C with
    | none => rw [hs] at h; exact k25s_ok _ T C r outs h
    | some x =>
      rw [hs] at h
      have hx : x = (true, r, outs) := by simpa using h
      subst hx
      unfold sp13 at hs
      split at hs
      · rename_i tk es
        obtain ⟨hb, rfl, rfl⟩ := spT_inv hs
        have he := ev13 tk es
        rw [hb, cond_true] at he
        obtain ⟨r0, o0, h0, he⟩ := evFin_inv he
        obtain ⟨h1, h2⟩ := fn_ok mixed plain (gk_ok k25s_ok 30) Try.func13 loops13 h0
        exact ⟨h1, h2.fin he⟩
      · cases hs
theorem ev24n : evFun (cfg Try.prog tab 100000 (gk k13 30) noLsp 24 ([] : List Blk).length Try.f24.ntmps) Try.f24 [.nil] [] = some (AV.nil, []) := by kernel_rfl
-- spec true ;; (AV.nil, [])
noncomputable def sp24n : List AV → List Blk → Option (Bool × AV × List Blk)
  | [.nil], [] => spW (true) (fin Try.prog (tab.frz 24) ([] : List Blk).length Try.f24.resultTypes.toList (some ((AV.nil, []))))
  | _, _ => none
noncomputable def k24n : Gam := fun f T C => match Nat.beq f 24 with
  | true => (sp24n T C).or (k13 f T C)
  | false => k13 f T C
theorem k24n_ok : GamOK Try.prog k24n := by
  intro f T C r outs h
  unfold k24n at h
  cases hf : Nat.beq f 24 with
  | false => rw [hf] at h; exact k13_ok f T C r outs h
  | true =>
    have hf' := Nat.eq_of_beq_eq_true hf
    subst hf'
    rw [hf] at h
    dsimp only at h
    cases hs : sp24n T C with
    | none => rw [hs] at h; exact k13_ok _ T C r outs h
    | some x =>
      rw [hs] at h
      have hx : x = (true, r, outs) := by simpa using h
      subst hx
      unfold sp24n at hs
      split at hs
      · obtain ⟨hb, hs⟩ := spW_inv hs
        have he := ev24n 
        obtain ⟨h1, h2⟩ := fn_ok mixed plain (gk_ok k13_ok 30) Try.func24 (fun c _ => LoopsOK.none (fun _ _ => rfl) c) he
        exact ⟨h1, h2.fin hs⟩
      · cases hs
noncomputable def vev24s_0 (es : List (List AV)) : List (List AV) := [] ++ es
noncomputable def vev24s_1 (es : List (List AV)) : Bool := bif bif decide (((0 : Nat) + es.length) * (16 : Nat) ≤ (140737488355328 : Nat)) then decide ((0 : Nat) + es.length ≤ (9223372036854775807 : Nat)) else false then true else false
theorem ev24s (es : List (List AV)) : evFun (cfg Try.prog tab 100000 (gk k24n 30) noLsp 24 ([] : List Blk).length Try.f24.ntmps) Try.f24 [.sl .nn [.int .i64, .int .i64] es] [] = bif vev24s_1 es then some (AV.rf (nat_lit 0) [Kd.int IntKind.i64, Kd.int IntKind.i64], [Blk.row [Kd.int IntKind.i64, Kd.int IntKind.i64] (vev24s_0 es)]) else none := by
  have h : evFun (cfg Try.prog tab 100000 (gk k24n 30) noLsp 24 ([] : List Blk).length Try.f24.ntmps) Try.f24 [.sl .nn [.int .i64, .int .i64] es] [] = bif bif decide (((0 : Nat) + es.length) * (16 : Nat) ≤ (140737488355328 : Nat)) then decide ((0 : Nat) + es.length ≤ (9223372036854775807 : Nat)) else false then some (AV.rf (nat_lit 0) [Kd.int IntKind.i64, Kd.int IntKind.i64], [Blk.row [Kd.int IntKind.i64, Kd.int IntKind.i64] ([] ++ es)]) else none := by kernel_rfl
  rw [h]
  clear h
  unfold vev24s_0 vev24s_1
  generalize (decide (((0 : Nat) + es.length) * (16 : Nat) ≤ (140737488355328 : Nat))) = c0
  generalize (decide ((0 : Nat) + es.length ≤ (9223372036854775807 : Nat))) = c1
  cases c0
  · skip
    rfl
  · skip
    cases c1
    · skip
      rfl
    · skip
      rfl
-- spec vev24s_1 es ;; (AV.rf (nat_lit 0) [Kd.int IntKind.i64, Kd.int IntKind.i64], [Blk.row [Kd.int IntKind.i64, Kd.int IntKind.i64] (vev24s_0 es)])
noncomputable def sp24s : List AV → List Blk → Option (Bool × AV × List Blk)
  | [.sl .nn [.int .i64, .int .i64] es], [] => spW (vev24s_1 es) (fin Try.prog (tab.frz 24) ([] : List Blk).length Try.f24.resultTypes.toList (some ((AV.rf (nat_lit 0) [Kd.int IntKind.i64, Kd.int IntKind.i64], [Blk.row [Kd.int IntKind.i64, Kd.int IntKind.i64] (vev24s_0 es)]))))
  | _, _ => none
noncomputable def k24s : Gam := fun f T C => match Nat.beq f 24 with
  | true => (sp24s T C).or (k24n f T C)
  | false => k24n f T C
theorem k24s_ok : GamOK Try.prog k24s := by
  intro f T C r outs h
  unfold k24s at h
  cases hf : Nat.beq f 24 with
  | false => rw [hf] at h; exact k24n_ok f T C r outs h
  | true =>
    have hf' := Nat.eq_of_beq_eq_true hf
    subst hf'
    rw [hf] at h
    dsimp only at h
    cases hs : sp24s T C with
    | none => rw [hs] at h; exact k24n_ok _ T C r outs h
    | some x =>
      rw [hs] at h
      have hx : x = (true, r, outs) := by simpa using h
      subst hx
      unfold sp24s at hs
      split at hs
      · rename_i es
        obtain ⟨hb, hs⟩ := spW_inv hs
        have he := ev24s es
        rw [hb, cond_true] at he
        obtain ⟨h1, h2⟩ := fn_ok mixed plain (gk_ok k24n_ok 30) Try.func24 (fun c _ => LoopsOK.none (fun _ _ => rfl) c) he
        exact ⟨h1, h2.fin hs⟩
      · cases hs
noncomputable def sp24c : List AV → List Blk → Option (Bool × AV × List Blk)
  | [.sl _ [.int .i64, .int .i64] es], [] => some (Nat.ble (es.length * 16) 140737488355328, .rf 0 [.int .i64, .int .i64], [.row [.int .i64, .int .i64] es])
  | _, _ => none
noncomputable def k24c : Gam := fun f T C => match Nat.beq f 24 with
  | true => (sp24c T C).or (k24s f T C)
  | false => k24s f T C
theorem k24c_ok : GamOK Try.prog k24c := by
  intro f T C r outs h
  unfold k24c at h
  cases hf : Nat.beq f 24 with
  | false => rw [hf] at h; exact k24s_ok f T C r outs h
  | true =>
    have hf' := Nat.eq_of_beq_eq_true hf
    subst hf'
    rw [hf] at h
    dsimp only at h
    cases hs : sp24c T C with
    | none => rw [hs] at h; exact k24s_ok _ T C r outs h
    | some x =>
      rw [hs] at h
      have hx : x = (true, r, outs) := by simpa using h
      subst hx
      unfold sp24c at hs
      split at hs
      · rename_i t es
        injection hs with hs
        injection hs with hb hs
        injection hs with e1 e2
        subst e1 e2
        have hb := Nat.le_of_ble_eq_true hb
        have h1 := fn_ok mixed plain (gk_ok k13_ok 30) Try.func24 (fun c _ => LoopsOK.none (fun _ _ => rfl) c) ev24n
        have he := ev24s es
        have hok : vev24s_1 es = true := by
          unfold vev24s_1
          rw [decide_eq_true (show (0 + es.length) * 16 ≤ 140737488355328 by omega), decide_eq_true (show 0 + es.length ≤ 9223372036854775807 by omega)]
          rfl
        rw [hok, cond_true] at he
        have h2 := fn_ok mixed plain (gk_ok k24n_ok 30) Try.func24 (fun c _ => LoopsOK.none (fun _ _ => rfl) c) he
        exact ⟨h1.1, clone_ok (by decide) h1.2 (fun h => h) h2.2 t⟩
      · cases hs
theorem ev26n : evFun (cfg Try.prog tab 100000 (gk k24c 30) noLsp 26 ([] : List Blk).length Try.f26.ntmps) Try.f26 [.nil] [] = some (AV.nil, []) := by kernel_rfl
-- spec true ;; (AV.nil, [])
noncomputable def sp26n : List AV → List Blk → Option (Bool × AV × List Blk)
  | [.nil], [] => spW (true) (fin Try.prog (tab.frz 26) ([] : List Blk).length Try.f26.resultTypes.toList (some ((AV.nil, []))))
  | _, _ => none
noncomputable def k26n : Gam := fun f T C => match Nat.beq f 26 with
  | true => (sp26n T C).or (k24c f T C)
  | false => k24c f T C
theorem k26n_ok : GamOK Try.prog k26n := by
  intro f T C r outs h
  unfold k26n at h
  cases hf : Nat.beq f 26 with
  | false => rw [hf] at h; exact k24c_ok f T C r outs h
  | true =>
    have hf' := Nat.eq_of_beq_eq_true hf
    subst hf'
    rw [hf] at h
    dsimp only at h
    cases hs : sp26n T C with
    | none => rw [hs] at h; exact k24c_ok _ T C r outs h
    | some x =>
      rw [hs] at h
      have hx : x = (true, r, outs) := by simpa using h
      subst hx
      unfold sp26n at hs
      split at hs
      · obtain ⟨hb, hs⟩ := spW_inv hs
        have he := ev26n 
        obtain ⟨h1, h2⟩ := fn_ok mixed plain (gk_ok k24c_ok 30) Try.func26 (fun c _ => LoopsOK.none (fun _ _ => rfl) c) he
        exact ⟨h1, h2.fin hs⟩
      · cases hs
noncomputable def vev26s_0 (es : List (List AV)) : List (List AV) := [] ++ es
noncomputable def vev26s_1 (es : List (List AV)) : Bool := bif bif decide (((0 : Nat) + es.length) * (16 : Nat) ≤ (140737488355328 : Nat)) then decide ((0 : Nat) + es.length ≤ (9223372036854775807 : Nat)) else false then true else false
theorem ev26s (es : List (List AV)) : evFun (cfg Try.prog tab 100000 (gk k26n 30) noLsp 26 ([] : List Blk).length Try.f26.ntmps) Try.f26 [.sl .nn [.int .i64, .int .i64] es] [] = bif vev26s_1 es then some (AV.rf (nat_lit 0) [Kd.int IntKind.i64, Kd.int IntKind.i64], [Blk.row [Kd.int IntKind.i64, Kd.int IntKind.i64] (vev26s_0 es)]) else none := by
  have h : evFun (cfg Try.prog tab 100000 (gk k26n 30) noLsp 26 ([] : List Blk).length Try.f26.ntmps) Try.f26 [.sl .nn [.int .i64, .int .i64] es] [] = bif bif decide (((0 : Nat) + es.length) * (16 : Nat) ≤ (140737488355328 : Nat)) then decide ((0 : Nat) + es.length ≤ (9223372036854775807 : Nat)) else false then some (AV.rf (nat_lit 0) [Kd.int IntKind.i64, Kd.int IntKind.i64], [Blk.row [Kd.int IntKind.i64, Kd.int IntKind.i64] ([] ++ es)]) else none := by kernel_rfl
  rw [h]
  clear h
  unfold vev26s_0 vev26s_1
  generalize (decide (((0 : Nat) + es.length) * (16 : Nat) ≤ (140737488355328 : Nat))) = c0
  generalize (decide ((0 : Nat) + es.length ≤ (9223372036854775807 : Nat))) = c1
  cases c0
  · skip
    rfl
  · skip
    cases c1
    · skip
      rfl
    · skip
      rfl
-- spec vev26s_1 es ;; (AV.rf (nat_lit 0) [Kd.int IntKind.i64, Kd.int IntKind.i64], [Blk.row [Kd.int IntKind.i64, Kd.int IntKind.i64] (vev26s_0 es)])
noncomputable def sp26s : List AV → List Blk → Option (Bool × AV × List Blk)
  | [.sl .nn [.int .i64, .int .i64] es], [] => spW (vev26s_1 es) (fin Try.prog (tab.frz 26) ([] : List Blk).length Try.f26.resultTypes.toList (some ((AV.rf (nat_lit 0) [Kd.int IntKind.i64, Kd.int IntKind.i64], [Blk.row [Kd.int IntKind.i64, Kd.int IntKind.i64] (vev26s_0 es)]))))
  | _, _ => none
noncomputable def k26s : Gam := fun f T C => match Nat.beq f 26 with
  | true => (sp26s T C).or (k26n f T C)
  | false => k26n f T C
theorem k26s_ok : GamOK Try.prog k26s := by
  intro f T C r outs h
  unfold k26s at h
  cases hf : Nat.beq f 26 with
  | false => rw [hf] at h; exact k26n_ok f T C r outs h
  | true =>
    have hf' := Nat.eq_of_beq_eq_true hf
    subst hf'
    rw [hf] at h
    dsimp only at h
    cases hs : sp26s T C with
    | none => rw [hs] at h; exact k26n_ok _ T C r outs h
    | some x =>
      rw [hs] at h
      have hx : x = (true, r, outs) := by simpa using h
      subst hx
      unfold sp26s at hs
      split at hs
      · rename_i es
        obtain ⟨hb, hs⟩ := spW_inv hs
        have he := ev26s es
        rw [hb, cond_true] at he
        obtain ⟨h1, h2⟩ := fn_ok mixed plain (gk_ok k26n_ok 30) Try.func26 (fun c _ => LoopsOK.none (fun _ _ => rfl) c) he
        exact ⟨h1, h2.fin hs⟩
      · cases hs
noncomputable def sp26c : List AV → List Blk → Option (Bool × AV × List Blk)
  | [.sl _ [.int .i64, .int .i64] es], [] => some (Nat.ble (es.length * 16) 140737488355328, .rf 0 [.int .i64, .int .i64], [.row [.int .i64, .int .i64] es])
  | _, _ => none
noncomputable def k26c : Gam := fun f T C => match Nat.beq f 26 with
  | true => (sp26c T C).or (k26s f T C)
  | false => k26s f T C
theorem k26c_ok : GamOK Try.prog k26c := by
  intro f T C r outs h
  unfold k26c at h
  cases hf : Nat.beq f 26 with
  | false => rw [hf] at h; exact k26s_ok f T C r outs h
  | true =>
    have hf' := Nat.eq_of_beq_eq_true hf
    subst hf'
    rw [hf] at h
    dsimp only at h
    cases hs : sp26c T C with
    | none => rw [hs] at h; exact k26s_ok _ T C r outs h
    | some x =>
      rw [hs] at h
      have hx : x = (true, r, outs) := by simpa using h
      subst hx
      unfold sp26c at hs
      split at hs
      · rename_i t es
        injection hs with hs
        injection hs with hb hs
        injection hs with e1 e2
        subst e1 e2
        have hb := Nat.le_of_ble_eq_true hb
        have h1 := fn_ok mixed plain (gk_ok k24c_ok 30) Try.func26 (fun c _ => LoopsOK.none (fun _ _ => rfl) c) ev26n
        have he := ev26s es
        have hok : vev26s_1 es = true := by
          unfold vev26s_1
          rw [decide_eq_true (show (0 + es.length) * 16 ≤ 140737488355328 by omega), decide_eq_true (show 0 + es.length ≤ 9223372036854775807 by omega)]
          rfl
        rw [hok, cond_true] at he
        have h2 := fn_ok mixed plain (gk_ok k26n_ok 30) Try.func26 (fun c _ => LoopsOK.none (fun _ _ => rfl) c) he
        exact ⟨h1.1, clone_ok (by decide) h1.2 (fun h => h) h2.2 t⟩
      · cases hs
noncomputable def go7_3 (t4 : Int) (b1 : List (List AV)) : Bool := bif decide (t4 ≥ (0 : Int)) then vev25_1 b1 t4 else false
noncomputable def nx7_3_0 (t4 : Int) (b1 : List (List AV)) : Int := IntKind.i64.wrap (t4 - (1 : Int))
noncomputable def xc7_3_0 (t4 : Int) (b1 : List (List AV)) : Bool := bif decide (t4 ≥ (0 : Int)) then false else true
theorem rd7_3 (rest : Lsp) (t4 : Int) (b1 : List (List AV)) : roundV (cfg Try.prog tab 100000 (gk k26c 30) rest 7 0 Try.f7.ntmps) (loopAt Try.f7 3) [3, 4] [0, 1] [3] [0, 1] [AV.rf (nat_lit 1) [Kd.int IntKind.i64, Kd.int IntKind.i64], AV.int IntKind.i64 t4] [Blk.dead, Blk.row [Kd.int IntKind.i64, Kd.int IntKind.i64] b1] = bif go7_3 t4 b1 then some (Ex.norm, [AV.rf (nat_lit 1) [Kd.int IntKind.i64, Kd.int IntKind.i64], AV.int IntKind.i64 (nx7_3_0 t4 b1)], [Blk.dead, Blk.row [Kd.int IntKind.i64, Kd.int IntKind.i64] (vev25_0 b1 t4)]) else bif xc7_3_0 t4 b1 then some (Ex.exit (nat_lit 0), [AV.rf (nat_lit 1) [Kd.int IntKind.i64, Kd.int IntKind.i64]], [Blk.dead, Blk.row [Kd.int IntKind.i64, Kd.int IntKind.i64] b1]) else none := by
  have h : roundV (cfg Try.prog tab 100000 (gk k26c 30) rest 7 0 Try.f7.ntmps) (loopAt Try.f7 3) [3, 4] [0, 1] [3] [0, 1] [AV.rf (nat_lit 1) [Kd.int IntKind.i64, Kd.int IntKind.i64], AV.int IntKind.i64 t4] [Blk.dead, Blk.row [Kd.int IntKind.i64, Kd.int IntKind.i64] b1] = bif decide (t4 ≥ (0 : Int)) then bif vev25_1 b1 t4 then some (Ex.norm, [AV.rf (nat_lit 1) [Kd.int IntKind.i64, Kd.int IntKind.i64], AV.int IntKind.i64 (IntKind.i64.wrap (t4 - (1 : Int)))], [Blk.dead, Blk.row [Kd.int IntKind.i64, Kd.int IntKind.i64] (vev25_0 b1 t4)]) else none else some (Ex.exit (nat_lit 0), [AV.rf (nat_lit 1) [Kd.int IntKind.i64, Kd.int IntKind.i64]], [Blk.dead, Blk.row [Kd.int IntKind.i64, Kd.int IntKind.i64] b1]) := by kernel_rfl
  rw [h]
  clear h
  unfold go7_3 nx7_3_0 xc7_3_0
  generalize (decide (t4 ≥ (0 : Int))) = c0
  generalize (vev25_1 b1 t4) = c1
  cases c0
  · skip
    rfl
  · skip
    cases c1
    · skip
      rfl
    · skip
      rfl
abbrev pl7_3 : Type := Unit
abbrev sl7_3 : Type := Int × (List (List AV))
noncomputable def vt7_3 (a : pl7_3 × sl7_3) : List AV := [AV.rf (nat_lit 1) [Kd.int IntKind.i64, Kd.int IntKind.i64], AV.int IntKind.i64 a.2.1]
noncomputable def vc7_3 (a : pl7_3 × sl7_3) : List Blk := [Blk.dead, Blk.row [Kd.int IntKind.i64, Kd.int IntKind.i64] a.2.2]
noncomputable def de7_3 (vt : List AV) (vc : List Blk) : Option (pl7_3 × sl7_3) :=
  match vt with
  | [qa0, qa1] => (match vc with
  | [qb0, qb1] => (match qa0 with
  | AV.rf (1) [Kd.int IntKind.i64, Kd.int IntKind.i64] => (match qa1 with
  | AV.int IntKind.i64 t4 => (match qb0 with
  | Blk.dead => (match qb1 with
  | Blk.row [Kd.int IntKind.i64, Kd.int IntKind.i64] b1 => (some ((), (t4, b1)))
  | _ => none)
  | _ => none)
  | _ => none)
  | _ => none)
  | _ => none)
  | _ => none
theorem de7_3_ok (vt : List AV) (vc : List Blk) (a : pl7_3 × sl7_3) (h : de7_3 vt vc = some a) : vt = vt7_3 a ∧ vc = vc7_3 a := by
  unfold de7_3 at h
  split at h
  rotate_left
  · cases h
  split at h
  rotate_left
  · cases h
  split at h
  rotate_left
  · cases h
  split at h
  rotate_left
  · cases h
  split at h
  rotate_left
  · cases h
  split at h
  rotate_left
  · cases h
  injection h with h
  subst h
  exact ⟨rfl, rfl⟩
noncomputable def g7_3 (p : pl7_3) (s : sl7_3) : Bool := go7_3 s.1 s.2
noncomputable def n7_3 (p : pl7_3) (s : sl7_3) : sl7_3 := (nx7_3_0 s.1 s.2, vev25_0 s.2 s.1)
noncomputable def y7_3 (p : pl7_3) (s : sl7_3) : List (Bool × Out) := []
noncomputable def z7_3 (p : pl7_3) (s : sl7_3) : Bool := xc7_3_0 s.1 s.2
noncomputable def d7_3 (p : pl7_3) (s : sl7_3) : Out := (Ex.exit (nat_lit 0), [AV.rf (nat_lit 1) [Kd.int IntKind.i64, Kd.int IntKind.i64]], [Blk.dead, Blk.row [Kd.int IntKind.i64, Kd.int IntKind.i64] s.2])
noncomputable def ls7_3 : St → Option (Bool × List (Bool × Ex × St) × Ex × St) := lspOf [3, 4] [0, 1] [3] [0, 1] Try.f7.ntmps (0 + tab.nid 7) de7_3 (spI g7_3 n7_3 y7_3 z7_3 d7_3)
theorem lo7_3 (rest : Lsp) : LoopOK1 (cfg Try.prog tab 100000 (gk k26c 30) (selL 3 ls7_3 rest) 7 0 Try.f7.ntmps) (loopAt Try.f7 3) := LoopOK1.iter (i := 3) (by kernel_rfl) [3, 4] [0, 1] [3] [0, 1] vt7_3 vc7_3 de7_3 g7_3 n7_3 y7_3 z7_3 d7_3 (fun _ => rfl) de7_3_ok (fun p s => rd7_3 (selL 3 ls7_3 rest) (s.1) (s.2)) (fun _ _ => rfl)
noncomputable def lsp7 : Lsp := (selL 3 ls7_3 noLsp)
theorem loops7 : ∀ c, Try.f7.body = some c → LoopsOK (cfg Try.prog tab 100000 (gk k26c 30) lsp7 7 0 Try.f7.ntmps) c := loops_of [3] (by kernel_rfl) (by kernel_rfl) (fun i hi => by
  simp only [List.mem_cons, List.not_mem_nil, or_false] at hi
  subst hi
  · exact lo7_3 noLsp)
noncomputable def rev7_0 (tk : Tk) (es : List (List AV)) : sl7_3 := finL (g7_3 ()) (n7_3 ()) (IntKind.i64.wrap (IntKind.i64.wrap ((↑es.length : Int).tdiv (2 : Int)) - (1 : Int)), es)
noncomputable def vev7_0 (tk : Tk) (es : List (List AV)) : List (List AV) := (rev7_0 tk es).snd
noncomputable def vev7_1 (tk : Tk) (es : List (List AV)) : Bool := bif (es.length * (16 : Nat)).ble (140737488355328 : Nat) then bif (spI g7_3 n7_3 y7_3 z7_3 d7_3 ((), IntKind.i64.wrap (IntKind.i64.wrap ((↑es.length : Int).tdiv (2 : Int)) - (1 : Int)), es)).fst then true else false else false
theorem ev7 (tk : Tk) (es : List (List AV)) : evFun (cfg Try.prog tab 100000 (gk k26c 30) lsp7 7 ([] : List Blk).length Try.f7.ntmps) Try.f7 [.sl tk [.int .i64, .int .i64] es] [] = bif vev7_1 tk es then some (AV.rf (nat_lit 0) [Kd.int IntKind.i64, Kd.int IntKind.i64], [Blk.row [Kd.int IntKind.i64, Kd.int IntKind.i64] (vev7_0 tk es)]) else none := by
  have h : evFun (cfg Try.prog tab 100000 (gk k26c 30) lsp7 7 ([] : List Blk).length Try.f7.ntmps) Try.f7 [.sl tk [.int .i64, .int .i64] es] [] = bif (es.length * (16 : Nat)).ble (140737488355328 : Nat) then bif (spI g7_3 n7_3 y7_3 z7_3 d7_3 ((), IntKind.i64.wrap (IntKind.i64.wrap ((↑es.length : Int).tdiv (2 : Int)) - (1 : Int)), es)).fst then some (AV.rf (nat_lit 0) [Kd.int IntKind.i64, Kd.int IntKind.i64], [Blk.row [Kd.int IntKind.i64, Kd.int IntKind.i64] (rev7_0 tk es).snd]) else none else none := by kernel_rfl
  rw [h]
  clear h
  unfold vev7_0 vev7_1
  generalize ((spI g7_3 n7_3 y7_3 z7_3 d7_3 ((), IntKind.i64.wrap (IntKind.i64.wrap ((↑es.length : Int).tdiv (2 : Int)) - (1 : Int)), es)).fst) = c0
  generalize ((es.length * (16 : Nat)).ble (140737488355328 : Nat)) = c1
  cases c1
  · skip
    rfl
  · skip
    cases c0
    · skip
      rfl
    · skip
      rfl
-- spec vev7_1 tk es ;; (AV.rf (nat_lit 0) [Kd.int IntKind.i64, Kd.int IntKind.i64], [Blk.row [Kd.int IntKind.i64, Kd.int IntKind.i64] (vev7_0 tk es)])
noncomputable def sp7 : List AV → List Blk → Option (Bool × AV × List Blk)
  | [.sl tk [.int .i64, .int .i64] es], [] => spW (vev7_1 tk es) (fin Try.prog (tab.frz 7) ([] : List Blk).length Try.f7.resultTypes.toList (some ((AV.rf (nat_lit 0) [Kd.int IntKind.i64, Kd.int IntKind.i64], [Blk.row [Kd.int IntKind.i64, Kd.int IntKind.i64] (vev7_0 tk es)]))))
  | _, _ => none
noncomputable def k7 : Gam := fun f T C => match Nat.beq f 7 with
  | true => (sp7 T C).or (k26c f T C)
  | false => k26c f T C
theorem k7_ok : GamOK Try.prog k7 := by
  intro f T C r outs h
  unfold k7 at h
  cases hf : Nat.beq f 7 with
  | false => rw [hf] at h; exact k26c_ok f T C r outs h
  | true =>
    have hf' := Nat.eq_of_beq_eq_true hf
    subst hf'
    rw [hf] at h
    dsimp only at h
    cases hs : sp7 T C with
    | none => rw [hs] at h; exact k26c_ok _ T C r outs h
    | some x =>
      rw [hs] at h
      have hx : x = (true, r, outs) := by simpa using h
      subst hx
      unfold sp7 at hs
      split at hs
      · rename_i tk es
        obtain ⟨hb, hs⟩ := spW_inv hs
        have he := ev7 tk es
        rw [hb, cond_true] at he
        obtain ⟨h1, h2⟩ := fn_ok mixed plain (gk_ok k26c_ok 30) Try.func7 loops7 he
        exact ⟨h1, h2.fin hs⟩
      · cases hs
noncomputable def vev30_0 (tk : Tk) (es : List (List AV)) : List (List AV) := bif vev13_0 tk es != (0 : Int) then vev7_0 tk es else es
noncomputable def vev30_1 (tk : Tk) (es : List (List AV)) : Bool := bif vev13_1 tk es then bif vev13_0 tk es != (0 : Int) then bif vev7_1 tk es then true else false else bif (es.length * (16 : Nat)).ble (140737488355328 : Nat) then true else false else false
theorem ev30 (tk : Tk) (es : List (List AV)) : evFun (cfg Try.prog tab 100000 (gk k7 30) noLsp 30 ([] : List Blk).length Try.f30.ntmps) Try.f30 [.sl tk [.int .i64, .int .i64] es] [] = bif vev30_1 tk es then some (AV.rf (nat_lit 0) [Kd.int IntKind.i64, Kd.int IntKind.i64], [Blk.row [Kd.int IntKind.i64, Kd.int IntKind.i64] (vev30_0 tk es)]) else none := by
  have h : evFun (cfg Try.prog tab 100000 (gk k7 30) noLsp 30 ([] : List Blk).length Try.f30.ntmps) Try.f30 [.sl tk [.int .i64, .int .i64] es] [] = bif vev13_1 tk es then bif vev13_0 tk es != (0 : Int) then bif vev7_1 tk es then some (AV.rf (nat_lit 0) [Kd.int IntKind.i64, Kd.int IntKind.i64], [Blk.row [Kd.int IntKind.i64, Kd.int IntKind.i64] (vev7_0 tk es)]) else none else bif (es.length * (16 : Nat)).ble (140737488355328 : Nat) then some (AV.rf (nat_lit 0) [Kd.int IntKind.i64, Kd.int IntKind.i64], [Blk.row [Kd.int IntKind.i64, Kd.int IntKind.i64] es]) else none else none := by kernel_rfl
  rw [h]
  clear h
  unfold vev30_0 vev30_1
  generalize ((es.length * (16 : Nat)).ble (140737488355328 : Nat)) = c0
  generalize (vev13_0 tk es != (0 : Int)) = c1
  generalize (vev13_1 tk es) = c2
  generalize (vev7_1 tk es) = c3
  cases c2
  · skip
    rfl
  · skip
    cases c1
    · skip
      cases c0
      · skip
        rfl
      · skip
        rfl
    · skip
      cases c3
      · skip
        rfl
      · skip
        rfl
-- spec vev30_1 tk es ;; (AV.rf (nat_lit 0) [Kd.int IntKind.i64, Kd.int IntKind.i64], [Blk.row [Kd.int IntKind.i64, Kd.int IntKind.i64] (vev30_0 tk es)])
noncomputable def sp30 : List AV → List Blk → Option (Bool × AV × List Blk)
  | [.sl tk [.int .i64, .int .i64] es], [] => spW (vev30_1 tk es) (fin Try.prog (tab.frz 30) ([] : List Blk).length Try.f30.resultTypes.toList (some ((AV.rf (nat_lit 0) [Kd.int IntKind.i64, Kd.int IntKind.i64], [Blk.row [Kd.int IntKind.i64, Kd.int IntKind.i64] (vev30_0 tk es)]))))
  | _, _ => none
noncomputable def k30 : Gam := fun f T C => match Nat.beq f 30 with
  | true => (sp30 T C).or (k7 f T C)
  | false => k7 f T C
theorem k30_ok : GamOK Try.prog k30 := by
  intro f T C r outs h
  unfold k30 at h
  cases hf : Nat.beq f 30 with
  | false => rw [hf] at h; exact k7_ok f T C r outs h
  | true =>
    have hf' := Nat.eq_of_beq_eq_true hf
    subst hf'
    rw [hf] at h
    dsimp only at h
    cases hs : sp30 T C with
    | none => rw [hs] at h; exact k7_ok _ T C r outs h
    | some x =>
      rw [hs] at h
      have hx : x = (true, r, outs) := by simpa using h
      subst hx
      unfold sp30 at hs
      split at hs
      · rename_i tk es
        obtain ⟨hb, hs⟩ := spW_inv hs
        have he := ev30 tk es
        rw [hb, cond_true] at he
        obtain ⟨h1, h2⟩ := fn_ok mixed plain (gk_ok k7_ok 30) Try.func30 (fun c _ => LoopsOK.none (fun _ _ => rfl) c) he
        exact ⟨h1, h2.fin hs⟩
      · cases hs
end Go.Proofs.Gv
