import Derived.Test.YtcnbeijlcndjpaaGt
import Derived.KernelRfl
import Derived.Test.YtcnbeijlcndjpaaGwF
namespace Go.Proofs.Gv
open Go.Proofs
set_option linter.unusedVariables false
theorem mixed : Try.prog.follows .mixedOrders = true := by kernel_rfl
theorem plain : plainNames Try.prog = true := by kernel_rfl
def k0 : Gam := fun _ _ _ => none
theorem k0_ok : GamOK Try.prog k0 := GamOK.none _
noncomputable abbrev gk (k : Gam) : Nat → Gam := gamN Try.prog tab 100000 k
theorem gk_ok {k : Gam} (h : GamOK Try.prog k) (d : Nat) : GamOK Try.prog (gk k d) := gamN_ok mixed plain h d
def spW (ok : Bool) (x : Option (Bool × AV × List Blk)) : Option (Bool × AV × List Blk) :=
  match x with
  | some (_, r, o) => some (ok, r, o)
  | none => none
theorem fin_some {P : Program} {frz : Bool} {m : Nat} {ts : List TypeId} {x : Option (AV × List Blk)} {b : Bool} {r : AV} {o : List Blk} (h : fin P frz m ts x = some (b, r, o)) : ∃ r0 o0, x = some (r0, o0) := by
  cases x with
  | none => cases h
  | some p => exact ⟨p.1, p.2, rfl⟩
theorem spT_inv {ok b' : Bool} {r r' : AV} {o o' : List Blk} (h : spW ok (some (b', r', o')) = some (true, r, o)) : ok = true ∧ r' = r ∧ o' = o := by
  unfold spW at h
  injection h with h
  injection h with h1 h
  injection h with h2 h3
  exact ⟨h1, h2, h3⟩
theorem fin_true {P : Program} {frz : Bool} {m : Nat} {ts : List TypeId} {x : Option (AV × List Blk)} {b : Bool} {r : AV} {o : List Blk} (h : fin P frz m ts x = some (b, r, o)) : b = true := by
  unfold fin at h
  split at h
  · split at h <;> (injection h with h; injection h with h; exact h.symm)
  · cases h
theorem spW_inv {P : Program} {frz : Bool} {m : Nat} {ts : List TypeId} {x : Option (AV × List Blk)} {ok : Bool} {r : AV} {o : List Blk} (h : spW ok (fin P frz m ts x) = some (true, r, o)) : ok = true ∧ fin P frz m ts x = some (true, r, o) := by
  unfold spW at h
  split at h
  · rename_i b r' o' he
    injection h with h
    injection h with h1 h
    injection h with h2 h3
    subst h1 h2 h3
    have := fin_true he
    subst this
    exact ⟨rfl, he⟩
  · cases h
noncomputable def go29_3 (t0k : Tk) (t0 : List (List AV)) (t3 : Int) (t4 : Int) : Bool := bif decide (t4 < (↑t0.length : Int)) then decide ((0 : Int) ≤ t4) && decide (t4 < (↑t0.length : Int)) else false
noncomputable def nx29_3_2 (t0k : Tk) (t0 : List (List AV)) (t3 : Int) (t4 : Int) : Int := IntKind.i64.wrap (IntKind.i64.wrap ((256 : Int) * t3) + IntKind.i64.wrap (intOf ((t0.getD t4.toNat []).getD (0 : Nat) AV.junk)))
noncomputable def nx29_3_3 (t0k : Tk) (t0 : List (List AV)) (t3 : Int) (t4 : Int) : Int := IntKind.i64.wrap (t4 + (1 : Int))
noncomputable def xc29_3_0 (t0k : Tk) (t0 : List (List AV)) (t3 : Int) (t4 : Int) : Bool := bif decide (t4 < (↑t0.length : Int)) then false else true
theorem rd29_3 (rest : Lsp) (t0k : Tk) (t0 : List (List AV)) (t3 : Int) (t4 : Int) : roundV (cfg Try.prog tab 100000 (gk k0 30) rest 29 0 Try.f29.ntmps) (loopAt Try.f29 3) [0, 3, 4] [] [3] [] [AV.sl t0k [Kd.int IntKind.u8] t0, AV.int IntKind.i64 t3, AV.int IntKind.i64 t4] [] = bif go29_3 t0k t0 t3 t4 then some (Ex.norm, [AV.sl t0k [Kd.int IntKind.u8] t0, AV.int IntKind.i64 (nx29_3_2 t0k t0 t3 t4), AV.int IntKind.i64 (nx29_3_3 t0k t0 t3 t4)], []) else bif xc29_3_0 t0k t0 t3 t4 then some (Ex.exit (nat_lit 0), [AV.int IntKind.i64 t3], []) else none := by
  have h : roundV (cfg Try.prog tab 100000 (gk k0 30) rest 29 0 Try.f29.ntmps) (loopAt Try.f29 3) [0, 3, 4] [] [3] [] [AV.sl t0k [Kd.int IntKind.u8] t0, AV.int IntKind.i64 t3, AV.int IntKind.i64 t4] [] = bif decide (t4 < (↑t0.length : Int)) then bif decide ((0 : Int) ≤ t4) && decide (t4 < (↑t0.length : Int)) then some (Ex.norm, [AV.sl t0k [Kd.int IntKind.u8] t0, AV.int IntKind.i64 (IntKind.i64.wrap (IntKind.i64.wrap ((256 : Int) * t3) + IntKind.i64.wrap (intOf ((t0.getD t4.toNat []).getD (0 : Nat) AV.junk)))), AV.int IntKind.i64 (IntKind.i64.wrap (t4 + (1 : Int)))], []) else none else some (Ex.exit (nat_lit 0), [AV.int IntKind.i64 t3], []) := by kernel_rfl
  rw [h]
  clear h
  unfold go29_3 nx29_3_2 nx29_3_3 xc29_3_0
  generalize (decide ((0 : Int) ≤ t4) && decide (t4 < (↑t0.length : Int))) = c0
  generalize (decide (t4 < (↑t0.length : Int))) = c1
  cases c1
  · skip
    rfl
  · skip
    cases c0
    · skip
      rfl
    · skip
      rfl
abbrev pl29_3 : Type := Tk × (List (List AV))
abbrev sl29_3 : Type := Int × Int
noncomputable def vt29_3 (a : pl29_3 × sl29_3) : List AV := [AV.sl a.1.1 [Kd.int IntKind.u8] a.1.2, AV.int IntKind.i64 a.2.1, AV.int IntKind.i64 a.2.2]
noncomputable def vc29_3 (a : pl29_3 × sl29_3) : List Blk := []
noncomputable def de29_3 (vt : List AV) (vc : List Blk) : Option (pl29_3 × sl29_3) :=
  match vt with
  | [qa0, qa1, qa2] => (match vc with
  | [] => (match qa0 with
  | AV.sl t0k [Kd.int IntKind.u8] t0 => (match qa1 with
  | AV.int IntKind.i64 t3 => (match qa2 with
  | AV.int IntKind.i64 t4 => (some ((t0k, t0), (t3, t4)))
  | _ => none)
  | _ => none)
  | _ => none)
  | _ => none)
  | _ => none
theorem de29_3_ok (vt : List AV) (vc : List Blk) (a : pl29_3 × sl29_3) (h : de29_3 vt vc = some a) : vt = vt29_3 a ∧ vc = vc29_3 a := by
  unfold de29_3 at h
  split at h
  rotate_left
  · cases h
  split at h
  rotate_left
  · cases h
  split at h
  rotate_left
  · cases h
  split at h
  rotate_left
  · cases h
  split at h
  rotate_left
  · cases h
  injection h with h
  subst h
  exact ⟨rfl, rfl⟩
noncomputable def g29_3 (p : pl29_3) (s : sl29_3) : Bool := go29_3 p.1 p.2 s.1 s.2
noncomputable def n29_3 (p : pl29_3) (s : sl29_3) : sl29_3 := (nx29_3_2 p.1 p.2 s.1 s.2, nx29_3_3 p.1 p.2 s.1 s.2)
noncomputable def y29_3 (p : pl29_3) (s : sl29_3) : List (Bool × Out) := []
noncomputable def z29_3 (p : pl29_3) (s : sl29_3) : Bool := xc29_3_0 p.1 p.2 s.1 s.2
noncomputable def d29_3 (p : pl29_3) (s : sl29_3) : Out := (Ex.exit (nat_lit 0), [AV.int IntKind.i64 s.1], [])
noncomputable def ls29_3 : St → Option (Bool × List (Bool × Ex × St) × Ex × St) := lspOf [0, 3, 4] [] [3] [] Try.f29.ntmps (0 + tab.nid 29) de29_3 (spI g29_3 n29_3 y29_3 z29_3 d29_3)
theorem lo29_3 (rest : Lsp) : LoopOK1 (cfg Try.prog tab 100000 (gk k0 30) (selL 3 ls29_3 rest) 29 0 Try.f29.ntmps) (loopAt Try.f29 3) := LoopOK1.iter (i := 3) (by kernel_rfl) [0, 3, 4] [] [3] [] vt29_3 vc29_3 de29_3 g29_3 n29_3 y29_3 z29_3 d29_3 (fun _ => rfl) de29_3_ok (fun p s => rd29_3 (selL 3 ls29_3 rest) (p.1) (p.2) (s.1) (s.2)) (fun _ _ => rfl)
noncomputable def lsp29 : Lsp := (selL 3 ls29_3 noLsp)
theorem loops29 : ∀ c, Try.f29.body = some c → LoopsOK (cfg Try.prog tab 100000 (gk k0 30) lsp29 29 ([] : List Blk).length Try.f29.ntmps) c := loops_of [3] (by kernel_rfl) (by kernel_rfl) (fun i hi => by
  simp only [List.mem_cons, List.not_mem_nil, or_false] at hi
  subst hi
  · exact lo29_3 noLsp)
noncomputable def vev29_0 (tk : Tk) (bs : List (List AV)) : Int := (finL (g29_3 (tk, bs)) (n29_3 (tk, bs)) ((0 : Int), (0 : Int))).fst
noncomputable def vev29_1 (tk : Tk) (bs : List (List AV)) : Bool := bif (spI g29_3 n29_3 y29_3 z29_3 d29_3 ((tk, bs), (0 : Int), (0 : Int))).fst then true else false
theorem ev29 (tk : Tk) (bs : List (List AV)) : evFin (cfg Try.prog tab 100000 (gk k0 30) lsp29 29 ([] : List Blk).length Try.f29.ntmps) ([] : List Blk).length Try.f29.resultTypes.toList Try.f29 [.sl tk [.int .u8] bs] [] = bif vev29_1 tk bs then some (true, AV.int IntKind.i64 (vev29_0 tk bs), []) else none := by
  have h : evFin (cfg Try.prog tab 100000 (gk k0 30) lsp29 29 ([] : List Blk).length Try.f29.ntmps) ([] : List Blk).length Try.f29.resultTypes.toList Try.f29 [.sl tk [.int .u8] bs] [] = bif (spI g29_3 n29_3 y29_3 z29_3 d29_3 ((tk, bs), (0 : Int), (0 : Int))).fst then some (true, AV.int IntKind.i64 (finL (g29_3 (tk, bs)) (n29_3 (tk, bs)) ((0 : Int), (0 : Int))).fst, []) else none := by kernel_rfl
  rw [h]
  clear h
  unfold vev29_0 vev29_1
  generalize ((spI g29_3 n29_3 y29_3 z29_3 d29_3 ((tk, bs), (0 : Int), (0 : Int))).fst) = c0
  cases c0
  · skip
    rfl
  · skip
    rfl
-- spec vev29_1 tk bs ;; (true, AV.int IntKind.i64 (vev29_0 tk bs), [])
noncomputable def sp29 : List AV → List Blk → Option (Bool × AV × List Blk)
  | [.sl tk [.int .u8] bs], [] => spW (vev29_1 tk bs) (some ((true, AV.int IntKind.i64 (vev29_0 tk bs), [])))
  | _, _ => none
noncomputable def k29 : Gam := fun f T C => match Nat.beq f 29 with
  | true => (sp29 T C).or (k0 f T C)
  | false => k0 f T C
theorem k29_ok : GamOK Try.prog k29 := by
  intro f T C r outs h
  unfold k29 at h
  cases hf : Nat.beq f 29 with
  | false => rw [hf] at h; exact k0_ok f T C r outs h
  | true =>
    have hf' := Nat.eq_of_beq_eq_true hf
    subst hf'
    rw [hf] at h
    dsimp only at h
    cases hs : sp29 T C with
    | none => rw [hs] at h; exact k0_ok _ T C r outs h
    | some x =>
      rw [hs] at h
      have hx : x = (true, r, outs) := by simpa using h
      subst hx
      unfold sp29 at hs
      split at hs
      · rename_i tk bs
        obtain ⟨hb, rfl, rfl⟩ := spT_inv hs
        have he := ev29 tk bs
        rw [hb, cond_true] at he
        obtain ⟨r0, o0, h0, he⟩ := evFin_inv he
        obtain ⟨h1, h2⟩ := fn_ok mixed plain (gk_ok k0_ok 30) Try.func29 loops29 h0
        exact ⟨h1, h2.fin he⟩
      · cases hs
noncomputable def vev14_0 (tk : Tk) (bs : List (List AV)) : Int := bif decide ((↑bs.length : Int) < (9 : Int)) then (0 : Int) else IntKind.i64.wrap (bits BinOp.or IntKind.u32 (bits BinOp.or IntKind.u32 (IntKind.u32.wrap (IntKind.u32.wrap (intOf ((bs.getD (nat_lit 0) []).getD (0 : Nat) AV.junk)) * (2 : Int) ^ min (Int.toNat (16 : Int)) IntKind.u32.bits)) (IntKind.u32.wrap (IntKind.u32.wrap (intOf ((bs.getD (nat_lit 1) []).getD (0 : Nat) AV.junk)) * (2 : Int) ^ min (Int.toNat (8 : Int)) IntKind.u32.bits))) (IntKind.u32.wrap (intOf ((bs.getD (nat_lit 2) []).getD (0 : Nat) AV.junk))))
noncomputable def vev14_1 (tk : Tk) (bs : List (List AV)) : Int := bif decide ((↑bs.length : Int) < (9 : Int)) then (0 : Int) else intOf ((bs.getD (nat_lit 3) []).getD (0 : Nat) AV.junk)
noncomputable def vev14_2 (tk : Tk) (bs : List (List AV)) : Int := bif decide ((↑bs.length : Int) < (9 : Int)) then (0 : Int) else intOf ((bs.getD (nat_lit 4) []).getD (0 : Nat) AV.junk)
noncomputable def vev14_3 (tk : Tk) (bs : List (List AV)) : Int := bif decide ((↑bs.length : Int) < (9 : Int)) then (0 : Int) else IntKind.i64.wrap (bits BinOp.and IntKind.u32 (bits BinOp.or IntKind.u32 (bits BinOp.or IntKind.u32 (bits BinOp.or IntKind.u32 (IntKind.u32.wrap (IntKind.u32.wrap (intOf ((bs.getD (nat_lit 5) []).getD (0 : Nat) AV.junk)) * (2 : Int) ^ min (Int.toNat (24 : Int)) IntKind.u32.bits)) (IntKind.u32.wrap (IntKind.u32.wrap (intOf ((bs.getD (nat_lit 6) []).getD (0 : Nat) AV.junk)) * (2 : Int) ^ min (Int.toNat (16 : Int)) IntKind.u32.bits))) (IntKind.u32.wrap (IntKind.u32.wrap (intOf ((bs.getD (nat_lit 7) []).getD (0 : Nat) AV.junk)) * (2 : Int) ^ min (Int.toNat (8 : Int)) IntKind.u32.bits))) (IntKind.u32.wrap (intOf ((bs.getD (nat_lit 8) []).getD (0 : Nat) AV.junk)))) (2147483647 : Int))
noncomputable def vev14_4 (tk : Tk) (bs : List (List AV)) : Int := bif decide ((↑bs.length : Int) < (9 : Int)) then (3 : Int) else (0 : Int)
noncomputable def vev14_5 (tk : Tk) (bs : List (List AV)) : Bool := bif decide ((↑bs.length : Int) < (9 : Int)) then true else bif decide ((9 : Nat) ≤ bs.length) then true else false
theorem ev14 (tk : Tk) (bs : List (List AV)) : evFin (cfg Try.prog tab 100000 (gk k29 30) noLsp 14 ([] : List Blk).length Try.f14.ntmps) ([] : List Blk).length Try.f14.resultTypes.toList Try.f14 [.sl tk [.int .u8] bs] [] = bif vev14_5 tk bs then some (true, AV.tup [AV.agg [AV.int IntKind.i64 (vev14_0 tk bs), AV.int IntKind.u8 (vev14_1 tk bs), AV.int IntKind.u8 (vev14_2 tk bs), AV.int IntKind.i64 (vev14_3 tk bs)], AV.int IntKind.i64 (vev14_4 tk bs)], []) else none := by
  have h : evFin (cfg Try.prog tab 100000 (gk k29 30) noLsp 14 ([] : List Blk).length Try.f14.ntmps) ([] : List Blk).length Try.f14.resultTypes.toList Try.f14 [.sl tk [.int .u8] bs] [] = bif decide ((↑bs.length : Int) < (9 : Int)) then some (true, AV.tup [AV.agg [AV.int IntKind.i64 (0 : Int), AV.int IntKind.u8 (0 : Int), AV.int IntKind.u8 (0 : Int), AV.int IntKind.i64 (0 : Int)], AV.int IntKind.i64 (3 : Int)], []) else bif decide ((9 : Nat) ≤ bs.length) then some (true, AV.tup [AV.agg [AV.int IntKind.i64 (IntKind.i64.wrap (bits BinOp.or IntKind.u32 (bits BinOp.or IntKind.u32 (IntKind.u32.wrap (IntKind.u32.wrap (intOf ((bs.getD (nat_lit 0) []).getD (0 : Nat) AV.junk)) * (2 : Int) ^ min (Int.toNat (16 : Int)) IntKind.u32.bits)) (IntKind.u32.wrap (IntKind.u32.wrap (intOf ((bs.getD (nat_lit 1) []).getD (0 : Nat) AV.junk)) * (2 : Int) ^ min (Int.toNat (8 : Int)) IntKind.u32.bits))) (IntKind.u32.wrap (intOf ((bs.getD (nat_lit 2) []).getD (0 : Nat) AV.junk))))), AV.int IntKind.u8 (intOf ((bs.getD (nat_lit 3) []).getD (0 : Nat) AV.junk)), AV.int IntKind.u8 (intOf ((bs.getD (nat_lit 4) []).getD (0 : Nat) AV.junk)), AV.int IntKind.i64 (IntKind.i64.wrap (bits BinOp.and IntKind.u32 (bits BinOp.or IntKind.u32 (bits BinOp.or IntKind.u32 (bits BinOp.or IntKind.u32 (IntKind.u32.wrap (IntKind.u32.wrap (intOf ((bs.getD (nat_lit 5) []).getD (0 : Nat) AV.junk)) * (2 : Int) ^ min (Int.toNat (24 : Int)) IntKind.u32.bits)) (IntKind.u32.wrap (IntKind.u32.wrap (intOf ((bs.getD (nat_lit 6) []).getD (0 : Nat) AV.junk)) * (2 : Int) ^ min (Int.toNat (16 : Int)) IntKind.u32.bits))) (IntKind.u32.wrap (IntKind.u32.wrap (intOf ((bs.getD (nat_lit 7) []).getD (0 : Nat) AV.junk)) * (2 : Int) ^ min (Int.toNat (8 : Int)) IntKind.u32.bits))) (IntKind.u32.wrap (intOf ((bs.getD (nat_lit 8) []).getD (0 : Nat) AV.junk)))) (2147483647 : Int)))], AV.int IntKind.i64 (0 : Int)], []) else none := by kernel_rfl
  rw [h]
  clear h
  unfold vev14_0 vev14_1 vev14_2 vev14_3 vev14_4 vev14_5
  generalize (decide ((↑bs.length : Int) < (9 : Int))) = c0
  generalize (decide ((9 : Nat) ≤ bs.length)) = c1
  cases c0
  · skip
    cases c1
    · skip
      rfl
    · skip
      rfl
  · skip
    rfl
-- spec vev14_5 tk bs ;; (true, AV.tup [AV.agg [AV.int IntKind.i64 (vev14_0 tk bs), AV.int IntKind.u8 (vev14_1 tk bs), AV.int IntKind.u8 (vev14_2 tk bs), AV.int IntKind.i64 (vev14_3 tk bs)], AV.int IntKind.i64 (vev14_4 tk bs)], [])
noncomputable def sp14 : List AV → List Blk → Option (Bool × AV × List Blk)
  | [.sl tk [.int .u8] bs], [] => spW (vev14_5 tk bs) (some ((true, AV.tup [AV.agg [AV.int IntKind.i64 (vev14_0 tk bs), AV.int IntKind.u8 (vev14_1 tk bs), AV.int IntKind.u8 (vev14_2 tk bs), AV.int IntKind.i64 (vev14_3 tk bs)], AV.int IntKind.i64 (vev14_4 tk bs)], [])))
  | _, _ => none
noncomputable def k14 : Gam := fun f T C => match Nat.beq f 14 with
  | true => (sp14 T C).or (k29 f T C)
  | false => k29 f T C
theorem k14_ok : GamOK Try.prog k14 := by
  intro f T C r outs h
  unfold k14 at h
  cases hf : Nat.beq f 14 with
  | false => rw [hf] at h; exact k29_ok f T C r outs h
  | true =>
    have hf' := Nat.eq_of_beq_eq_true hf
    subst hf'
    rw [hf] at h
    dsimp only at h
    cases hs : sp14 T C with
    | none => rw [hs] at h; exact k29_ok _ T C r outs h
    | some x =>
      rw [hs] at h
      have hx : x = (true, r, outs) := by simpa using h
      subst hx
      unfold sp14 at hs
      split at hs
      · rename_i tk bs
        obtain ⟨hb, rfl, rfl⟩ := spT_inv hs
        have he := ev14 tk bs
        rw [hb, cond_true] at he
        obtain ⟨r0, o0, h0, he⟩ := evFin_inv he
        obtain ⟨h1, h2⟩ := fn_ok mixed plain (gk_ok k29_ok 30) Try.func14 (fun c _ => LoopsOK.none (fun _ _ => rfl) c) h0
        exact ⟨h1, h2.fin he⟩
      · cases hs
noncomputable def vev15_0 (tk : Tk) (bs : List (List AV)) : Int := bif decide ((↑bs.length : Int) < (9 : Int)) then (0 : Int) else vev29_0 tk (List.take (Int.toNat (3 : Int)) bs)
noncomputable def vev15_1 (tk : Tk) (bs : List (List AV)) : Int := bif decide ((↑bs.length : Int) < (9 : Int)) then (0 : Int) else intOf ((bs.getD (Int.toNat (3 : Int)) []).getD (0 : Nat) AV.junk)
noncomputable def vev15_2 (tk : Tk) (bs : List (List AV)) : Int := bif decide ((↑bs.length : Int) < (9 : Int)) then (0 : Int) else intOf ((bs.getD (Int.toNat (4 : Int)) []).getD (0 : Nat) AV.junk)
noncomputable def vev15_3 (tk : Tk) (bs : List (List AV)) : Int := bif decide ((↑bs.length : Int) < (9 : Int)) then (0 : Int) else (vev29_0 tk (List.drop (Int.toNat (5 : Int)) (List.take (Int.toNat (9 : Int)) bs))).tmod (2147483648 : Int)
noncomputable def vev15_4 (tk : Tk) (bs : List (List AV)) : Int := bif decide ((↑bs.length : Int) < (9 : Int)) then (3 : Int) else (0 : Int)
noncomputable def vev15_5 (tk : Tk) (bs : List (List AV)) : Bool := bif decide ((↑bs.length : Int) < (9 : Int)) then true else bif bnd (0 : Int) (3 : Int) (↑bs.length : Int) then bif vev29_1 tk (List.take (Int.toNat (3 : Int)) bs) then bif decide ((0 : Int) ≤ (3 : Int)) && decide ((3 : Int) < (↑bs.length : Int)) then bif decide ((0 : Int) ≤ (4 : Int)) && decide ((4 : Int) < (↑bs.length : Int)) then bif bnd (5 : Int) (9 : Int) (↑bs.length : Int) then bif vev29_1 tk (List.drop (Int.toNat (5 : Int)) (List.take (Int.toNat (9 : Int)) bs)) then true else false else false else false else false else false else false
theorem ev15 (tk : Tk) (bs : List (List AV)) : evFin (cfg Try.prog tab 100000 (gk k14 30) noLsp 15 ([] : List Blk).length Try.f15.ntmps) ([] : List Blk).length Try.f15.resultTypes.toList Try.f15 [.sl tk [.int .u8] bs] [] = bif vev15_5 tk bs then some (true, AV.tup [AV.agg [AV.int IntKind.i64 (vev15_0 tk bs), AV.int IntKind.u8 (vev15_1 tk bs), AV.int IntKind.u8 (vev15_2 tk bs), AV.int IntKind.i64 (vev15_3 tk bs)], AV.int IntKind.i64 (vev15_4 tk bs)], []) else none := by
  have h : evFin (cfg Try.prog tab 100000 (gk k14 30) noLsp 15 ([] : List Blk).length Try.f15.ntmps) ([] : List Blk).length Try.f15.resultTypes.toList Try.f15 [.sl tk [.int .u8] bs] [] = bif decide ((↑bs.length : Int) < (9 : Int)) then some (true, AV.tup [AV.agg [AV.int IntKind.i64 (0 : Int), AV.int IntKind.u8 (0 : Int), AV.int IntKind.u8 (0 : Int), AV.int IntKind.i64 (0 : Int)], AV.int IntKind.i64 (3 : Int)], []) else bif bnd (0 : Int) (3 : Int) (↑bs.length : Int) then bif vev29_1 tk (List.take (Int.toNat (3 : Int)) bs) then bif decide ((0 : Int) ≤ (3 : Int)) && decide ((3 : Int) < (↑bs.length : Int)) then bif decide ((0 : Int) ≤ (4 : Int)) && decide ((4 : Int) < (↑bs.length : Int)) then bif bnd (5 : Int) (9 : Int) (↑bs.length : Int) then bif vev29_1 tk (List.drop (Int.toNat (5 : Int)) (List.take (Int.toNat (9 : Int)) bs)) then some (true, AV.tup [AV.agg [AV.int IntKind.i64 (vev29_0 tk (List.take (Int.toNat (3 : Int)) bs)), AV.int IntKind.u8 (intOf ((bs.getD (Int.toNat (3 : Int)) []).getD (0 : Nat) AV.junk)), AV.int IntKind.u8 (intOf ((bs.getD (Int.toNat (4 : Int)) []).getD (0 : Nat) AV.junk)), AV.int IntKind.i64 ((vev29_0 tk (List.drop (Int.toNat (5 : Int)) (List.take (Int.toNat (9 : Int)) bs))).tmod (2147483648 : Int))], AV.int IntKind.i64 (0 : Int)], []) else none else none else none else none else none else none := by kernel_rfl
  rw [h]
  clear h
  unfold vev15_0 vev15_1 vev15_2 vev15_3 vev15_4 vev15_5
  generalize (decide ((0 : Int) ≤ (4 : Int)) && decide ((4 : Int) < (↑bs.length : Int))) = c0
  generalize (decide ((0 : Int) ≤ (3 : Int)) && decide ((3 : Int) < (↑bs.length : Int))) = c1
  generalize (decide ((↑bs.length : Int) < (9 : Int))) = c2
  generalize (vev29_1 tk (List.drop (Int.toNat (5 : Int)) (List.take (Int.toNat (9 : Int)) bs))) = c3
  generalize (bnd (0 : Int) (3 : Int) (↑bs.length : Int)) = c4
  generalize (bnd (5 : Int) (9 : Int) (↑bs.length : Int)) = c5
  generalize (vev29_1 tk (List.take (Int.toNat (3 : Int)) bs)) = c6
  cases c2
  · skip
    cases c4
    · skip
      rfl
    · skip
      cases c6
      · skip
        rfl
      · skip
        cases c1
        · skip
          rfl
        · skip
          cases c0
          · skip
            rfl
          · skip
            cases c5
            · skip
              rfl
            · skip
              cases c3
              · skip
                rfl
              · skip
                rfl
  · skip
    rfl
-- spec vev15_5 tk bs ;; (true, AV.tup [AV.agg [AV.int IntKind.i64 (vev15_0 tk bs), AV.int IntKind.u8 (vev15_1 tk bs), AV.int IntKind.u8 (vev15_2 tk bs), AV.int IntKind.i64 (vev15_3 tk bs)], AV.int IntKind.i64 (vev15_4 tk bs)], [])
noncomputable def sp15 : List AV → List Blk → Option (Bool × AV × List Blk)
  | [.sl tk [.int .u8] bs], [] => spW (vev15_5 tk bs) (some ((true, AV.tup [AV.agg [AV.int IntKind.i64 (vev15_0 tk bs), AV.int IntKind.u8 (vev15_1 tk bs), AV.int IntKind.u8 (vev15_2 tk bs), AV.int IntKind.i64 (vev15_3 tk bs)], AV.int IntKind.i64 (vev15_4 tk bs)], [])))
  | _, _ => none
noncomputable def k15 : Gam := fun f T C => match Nat.beq f 15 with
  | true => (sp15 T C).or (k14 f T C)
  | false => k14 f T C
theorem k15_ok : GamOK Try.prog k15 := by
  intro f T C r outs h
  unfold k15 at h
  cases hf : Nat.beq f 15 with
  | false => rw [hf] at h; exact k14_ok f T C r outs h
  | true =>
    have hf' := Nat.eq_of_beq_eq_true hf
    subst hf'
    rw [hf] at h
    dsimp only at h
    cases hs : sp15 T C with
    | none => rw [hs] at h; exact k14_ok _ T C r outs h
    | some x =>
      rw [hs] at h
      have hx : x = (true, r, outs) := by simpa using h
      subst hx
      unfold sp15 at hs
      split at hs
      · rename_i tk bs
        obtain ⟨hb, rfl, rfl⟩ := spT_inv hs
        have he := ev15 tk bs
        rw [hb, cond_true] at he
        obtain ⟨r0, o0, h0, he⟩ := evFin_inv he
        obtain ⟨h1, h2⟩ := fn_ok mixed plain (gk_ok k14_ok 30) Try.func15 (fun c _ => LoopsOK.none (fun _ _ => rfl) c) h0
        exact ⟨h1, h2.fin he⟩
      · cases hs
noncomputable def vev33_0 (s : List UInt8) : Int := bif decide ((↑s.length : Int) < (9 : Int)) then (0 : Int) else vev14_0 Tk.imm (List.map ofB (List.take (Int.toNat (9 : Int)) s))
noncomputable def vev33_1 (s : List UInt8) : Int := bif decide ((↑s.length : Int) < (9 : Int)) then (0 : Int) else vev14_1 Tk.imm (List.map ofB (List.take (Int.toNat (9 : Int)) s))
noncomputable def vev33_2 (s : List UInt8) : Int := bif decide ((↑s.length : Int) < (9 : Int)) then (0 : Int) else vev14_2 Tk.imm (List.map ofB (List.take (Int.toNat (9 : Int)) s))
noncomputable def vev33_3 (s : List UInt8) : Int := bif decide ((↑s.length : Int) < (9 : Int)) then (0 : Int) else vev14_3 Tk.imm (List.map ofB (List.take (Int.toNat (9 : Int)) s))
noncomputable def vev33_4 (s : List UInt8) : Bool := bif decide ((↑s.length : Int) < (9 : Int)) then false else vev14_4 Tk.imm (List.map ofB (List.take (Int.toNat (9 : Int)) s)) == (0 : Int)
noncomputable def vev33_5 (s : List UInt8) : Bool := bif decide ((↑s.length : Int) < (9 : Int)) then true else bif bnd (0 : Int) (9 : Int) (↑s.length : Int) then bif decide ((List.take (Int.toNat (9 : Int)) s).length ≤ (4611686018427387904 : Nat)) then bif vev14_5 Tk.imm (List.map ofB (List.take (Int.toNat (9 : Int)) s)) then true else false else false else false
theorem ev33 (s : List UInt8) : evFin (cfg Try.prog tab 100000 (gk k15 30) noLsp 33 ([] : List Blk).length Try.f33.ntmps) ([] : List Blk).length Try.f33.resultTypes.toList Try.f33 [.str s] [] = bif vev33_5 s then some (true, AV.tup [AV.agg [AV.int IntKind.i64 (vev33_0 s), AV.int IntKind.u8 (vev33_1 s), AV.int IntKind.u8 (vev33_2 s), AV.int IntKind.i64 (vev33_3 s)], AV.bool (vev33_4 s)], []) else none := by
  have h : evFin (cfg Try.prog tab 100000 (gk k15 30) noLsp 33 ([] : List Blk).length Try.f33.ntmps) ([] : List Blk).length Try.f33.resultTypes.toList Try.f33 [.str s] [] = bif decide ((↑s.length : Int) < (9 : Int)) then some (true, AV.tup [AV.agg [AV.int IntKind.i64 (0 : Int), AV.int IntKind.u8 (0 : Int), AV.int IntKind.u8 (0 : Int), AV.int IntKind.i64 (0 : Int)], AV.bool false], []) else bif bnd (0 : Int) (9 : Int) (↑s.length : Int) then bif decide ((List.take (Int.toNat (9 : Int)) s).length ≤ (4611686018427387904 : Nat)) then bif vev14_5 Tk.imm (List.map ofB (List.take (Int.toNat (9 : Int)) s)) then some (true, AV.tup [AV.agg [AV.int IntKind.i64 (vev14_0 Tk.imm (List.map ofB (List.take (Int.toNat (9 : Int)) s))), AV.int IntKind.u8 (vev14_1 Tk.imm (List.map ofB (List.take (Int.toNat (9 : Int)) s))), AV.int IntKind.u8 (vev14_2 Tk.imm (List.map ofB (List.take (Int.toNat (9 : Int)) s))), AV.int IntKind.i64 (vev14_3 Tk.imm (List.map ofB (List.take (Int.toNat (9 : Int)) s)))], AV.bool (vev14_4 Tk.imm (List.map ofB (List.take (Int.toNat (9 : Int)) s)) == (0 : Int))], []) else none else none else none := by kernel_rfl
  rw [h]
  clear h
  unfold vev33_0 vev33_1 vev33_2 vev33_3 vev33_4 vev33_5
  generalize (decide ((List.take (Int.toNat (9 : Int)) s).length ≤ (4611686018427387904 : Nat))) = c0
  generalize (decide ((↑s.length : Int) < (9 : Int))) = c1
  generalize (bnd (0 : Int) (9 : Int) (↑s.length : Int)) = c2
  generalize (vev14_5 Tk.imm (List.map ofB (List.take (Int.toNat (9 : Int)) s))) = c3
  cases c1
  · skip
    cases c2
    · skip
      rfl
    · skip
      cases c0
      · skip
        rfl
      · skip
        cases c3
        · skip
          rfl
        · skip
          rfl
  · skip
    rfl
-- spec vev33_5 s ;; (true, AV.tup [AV.agg [AV.int IntKind.i64 (vev33_0 s), AV.int IntKind.u8 (vev33_1 s), AV.int IntKind.u8 (vev33_2 s), AV.int IntKind.i64 (vev33_3 s)], AV.bool (vev33_4 s)], [])
noncomputable def sp33 : List AV → List Blk → Option (Bool × AV × List Blk)
  | [.str s], [] => spW (vev33_5 s) (some ((true, AV.tup [AV.agg [AV.int IntKind.i64 (vev33_0 s), AV.int IntKind.u8 (vev33_1 s), AV.int IntKind.u8 (vev33_2 s), AV.int IntKind.i64 (vev33_3 s)], AV.bool (vev33_4 s)], [])))
  | _, _ => none
noncomputable def k33 : Gam := fun f T C => match Nat.beq f 33 with
  | true => (sp33 T C).or (k15 f T C)
  | false => k15 f T C
theorem k33_ok : GamOK Try.prog k33 := by
  intro f T C r outs h
  unfold k33 at h
  cases hf : Nat.beq f 33 with
  | false => rw [hf] at h; exact k15_ok f T C r outs h
  | true =>
    have hf' := Nat.eq_of_beq_eq_true hf
    subst hf'
    rw [hf] at h
    dsimp only at h
    cases hs : sp33 T C with
    | none => rw [hs] at h; exact k15_ok _ T C r outs h
    | some x =>
      rw [hs] at h
      have hx : x = (true, r, outs) := by simpa using h
      subst hx
      unfold sp33 at hs
      split at hs
      · rename_i s
        obtain ⟨hb, rfl, rfl⟩ := spT_inv hs
        have he := ev33 s
        rw [hb, cond_true] at he
        obtain ⟨r0, o0, h0, he⟩ := evFin_inv he
        obtain ⟨h1, h2⟩ := fn_ok mixed plain (gk_ok k15_ok 30) Try.func33 (fun c _ => LoopsOK.none (fun _ _ => rfl) c) h0
        exact ⟨h1, h2.fin he⟩
      · cases hs
noncomputable def vev32_0 (s : List UInt8) : Int := bif vev15_4 Tk.imm (List.map ofB s) != (0 : Int) then (0 : Int) else bif decide (vev15_0 Tk.imm (List.map ofB s) > (16384 : Int)) then (-1 : Int) else bif decide ((↑s.length : Int) < IntKind.i64.wrap ((9 : Int) + vev15_0 Tk.imm (List.map ofB s))) then (0 : Int) else IntKind.i64.wrap ((9 : Int) + vev15_0 Tk.imm (List.map ofB s))
noncomputable def vev32_1 (s : List UInt8) : Bool := bif decide (s.length ≤ (4611686018427387904 : Nat)) then bif vev15_5 Tk.imm (List.map ofB s) then true else false else false
theorem ev32 (s : List UInt8) : evFin (cfg Try.prog tab 100000 (gk k33 30) noLsp 32 ([] : List Blk).length Try.f32.ntmps) ([] : List Blk).length Try.f32.resultTypes.toList Try.f32 [.str s] [] = bif vev32_1 s then some (true, AV.int IntKind.i64 (vev32_0 s), []) else none := by
  have h : evFin (cfg Try.prog tab 100000 (gk k33 30) noLsp 32 ([] : List Blk).length Try.f32.ntmps) ([] : List Blk).length Try.f32.resultTypes.toList Try.f32 [.str s] [] = bif decide (s.length ≤ (4611686018427387904 : Nat)) then bif vev15_5 Tk.imm (List.map ofB s) then bif vev15_4 Tk.imm (List.map ofB s) != (0 : Int) then some (true, AV.int IntKind.i64 (0 : Int), []) else bif decide (vev15_0 Tk.imm (List.map ofB s) > (16384 : Int)) then some (true, AV.int IntKind.i64 (-1 : Int), []) else bif decide ((↑s.length : Int) < IntKind.i64.wrap ((9 : Int) + vev15_0 Tk.imm (List.map ofB s))) then some (true, AV.int IntKind.i64 (0 : Int), []) else some (true, AV.int IntKind.i64 (IntKind.i64.wrap ((9 : Int) + vev15_0 Tk.imm (List.map ofB s))), []) else none else none := by kernel_rfl
  rw [h]
  clear h
  unfold vev32_0 vev32_1
  generalize (decide ((↑s.length : Int) < IntKind.i64.wrap ((9 : Int) + vev15_0 Tk.imm (List.map ofB s)))) = c0
  generalize (decide (vev15_0 Tk.imm (List.map ofB s) > (16384 : Int))) = c1
  generalize (decide (s.length ≤ (4611686018427387904 : Nat))) = c2
  generalize (vev15_4 Tk.imm (List.map ofB s) != (0 : Int)) = c3
  generalize (vev15_5 Tk.imm (List.map ofB s)) = c4
  cases c2
  · skip
    rfl
  · skip
    cases c4
    · skip
      rfl
    · skip
      cases c3
      · skip
        cases c1
        · skip
          cases c0
          · skip
            rfl
          · skip
            rfl
        · skip
          rfl
      · skip
        rfl
-- spec vev32_1 s ;; (true, AV.int IntKind.i64 (vev32_0 s), [])
noncomputable def sp32 : List AV → List Blk → Option (Bool × AV × List Blk)
  | [.str s], [] => spW (vev32_1 s) (some ((true, AV.int IntKind.i64 (vev32_0 s), [])))
  | _, _ => none
noncomputable def k32 : Gam := fun f T C => match Nat.beq f 32 with
  | true => (sp32 T C).or (k33 f T C)
  | false => k33 f T C
theorem k32_ok : GamOK Try.prog k32 := by
  intro f T C r outs h
  unfold k32 at h
  cases hf : Nat.beq f 32 with
  | false => rw [hf] at h; exact k33_ok f T C r outs h
  | true =>
    have hf' := Nat.eq_of_beq_eq_true hf
    subst hf'
    rw [hf] at h
    dsimp only at h
    cases hs : sp32 T C with
    | none => rw [hs] at h; exact k33_ok _ T C r outs h
    | some x =>
      rw [hs] at h
      have hx : x = (true, r, outs) := by simpa using h
      subst hx
      unfold sp32 at hs
      split at hs
      · rename_i s
        obtain ⟨hb, rfl, rfl⟩ := spT_inv hs
        have he := ev32 s
        rw [hb, cond_true] at he
        obtain ⟨r0, o0, h0, he⟩ := evFin_inv he
        obtain ⟨h1, h2⟩ := fn_ok mixed plain (gk_ok k33_ok 30) Try.func32 (fun c _ => LoopsOK.none (fun _ _ => rfl) c) h0
        exact ⟨h1, h2.fin he⟩
      · cases hs
noncomputable def vev23_0 (g : Int) (s : List UInt8) (d : Bool) : Int := bif bif d then bif g != (0 : Int) then true else !s == (ByteArray.mk #[]).data.toList else false then (4 : Int) else bif decide (g < (0 : Int)) then (8 : Int) else bif decide (g > (24 : Int)) then (8 : Int) else bif bif decide (g < (24 : Int)) then !s == (ByteArray.mk #[]).data.toList else false then (10 : Int) else bif bif vev33_4 s then bif decide (vev33_0 s > (16384 : Int)) then true else decide ((↑s.length : Int) ≥ IntKind.i64.wrap ((9 : Int) + vev33_0 s)) else false then (5 : Int) else (0 : Int)
theorem ev23 (g : Int) (s : List UInt8) (d : Bool) : evFin (cfg Try.prog tab 100000 (gk k32 30) noLsp 23 ([] : List Blk).length Try.f23.ntmps) ([] : List Blk).length Try.f23.resultTypes.toList Try.f23 [.agg [.int .i64 g, .str s, .bool d]] [] = bif bif vev33_5 s then true else false then some (true, AV.int IntKind.i64 (vev23_0 g s d), []) else none := by
  have h : evFin (cfg Try.prog tab 100000 (gk k32 30) noLsp 23 ([] : List Blk).length Try.f23.ntmps) ([] : List Blk).length Try.f23.resultTypes.toList Try.f23 [.agg [.int .i64 g, .str s, .bool d]] [] = bif vev33_5 s then bif bif d then bif g != (0 : Int) then true else true else true then bif bif d then bif g != (0 : Int) then bif true then true else false else bif true then bif false then true else !s == (ByteArray.mk #[]).data.toList else false else false then some (true, AV.int IntKind.i64 (4 : Int), []) else bif decide (g < (0 : Int)) then bif decide (g < (0 : Int)) then some (true, AV.int IntKind.i64 (8 : Int), []) else bif bif decide (g < (24 : Int)) then true else true then bif bif decide (g < (24 : Int)) then bif true then !s == (ByteArray.mk #[]).data.toList else false else false then some (true, AV.int IntKind.i64 (10 : Int), []) else bif bif vev33_4 s then bif decide (vev33_0 s > (16384 : Int)) then true else true else true then bif bif vev33_4 s then bif decide (vev33_0 s > (16384 : Int)) then bif true then true else false else bif true then bif false then true else decide ((↑s.length : Int) ≥ IntKind.i64.wrap ((9 : Int) + vev33_0 s)) else false else false then some (true, AV.int IntKind.i64 (5 : Int), []) else some (true, AV.int IntKind.i64 (0 : Int), []) else none else none else bif decide (g > (24 : Int)) then some (true, AV.int IntKind.i64 (8 : Int), []) else bif bif decide (g < (24 : Int)) then true else true then bif bif decide (g < (24 : Int)) then bif true then !s == (ByteArray.mk #[]).data.toList else false else false then some (true, AV.int IntKind.i64 (10 : Int), []) else bif bif vev33_4 s then bif decide (vev33_0 s > (16384 : Int)) then true else true else true then bif bif vev33_4 s then bif decide (vev33_0 s > (16384 : Int)) then bif true then true else false else bif true then bif false then true else decide ((↑s.length : Int) ≥ IntKind.i64.wrap ((9 : Int) + vev33_0 s)) else false else false then some (true, AV.int IntKind.i64 (5 : Int), []) else some (true, AV.int IntKind.i64 (0 : Int), []) else none else none else none else none := by kernel_rfl
  rw [h]
  clear h
  unfold vev23_0
  generalize (decide ((↑s.length : Int) ≥ IntKind.i64.wrap ((9 : Int) + vev33_0 s))) = c0
  generalize (decide (vev33_0 s > (16384 : Int))) = c1
  generalize (!s == (ByteArray.mk #[]).data.toList) = c2
  generalize (decide (g < (0 : Int))) = c3
  generalize (decide (g > (24 : Int))) = c4
  generalize (decide (g < (24 : Int))) = c5
  generalize (g != (0 : Int)) = c6
  generalize (vev33_5 s) = c7
  generalize (vev33_4 s) = c8
  generalize (d) = c9
  cases c7
  · skip
    rfl
  · skip
    cases c9
    · skip
      cases c3
      · skip
        cases c4
        · skip
          cases c5
          · skip
            cases c8
            · skip
              rfl
            · skip
              cases c1
              · skip
                cases c0
                · skip
                  rfl
                · skip
                  rfl
              · skip
                rfl
          · skip
            cases c2
            · skip
              cases c8
              · skip
                rfl
              · skip
                cases c1
                · skip
                  cases c0
                  · skip
                    rfl
                  · skip
                    rfl
                · skip
                  rfl
            · skip
              rfl
        · skip
          rfl
      · skip
        rfl
    · skip
      cases c6
      · skip
        cases c2
        · skip
          cases c3
          · skip
            cases c4
            · skip
              cases c5
              · skip
                cases c8
                · skip
                  rfl
                · skip
                  cases c1
                  · skip
                    cases c0
                    · skip
                      rfl
                    · skip
                      rfl
                  · skip
                    rfl
              · skip
                cases c8
                · skip
                  rfl
                · skip
                  cases c1
                  · skip
                    cases c0
                    · skip
                      rfl
                    · skip
                      rfl
                  · skip
                    rfl
            · skip
              rfl
          · skip
            rfl
        · skip
          rfl
      · skip
        rfl
-- spec bif vev33_5 s then true else false ;; (true, AV.int IntKind.i64 (vev23_0 g s d), [])
noncomputable def sp23 : List AV → List Blk → Option (Bool × AV × List Blk)
  | [.agg [.int .i64 g, .str s, .bool d]], [] => spW (bif vev33_5 s then true else false) (some ((true, AV.int IntKind.i64 (vev23_0 g s d), [])))
  | _, _ => none
noncomputable def k23 : Gam := fun f T C => match Nat.beq f 23 with
  | true => (sp23 T C).or (k32 f T C)
  | false => k32 f T C
theorem k23_ok : GamOK Try.prog k23 := by
  intro f T C r outs h
  unfold k23 at h
  cases hf : Nat.beq f 23 with
  | false => rw [hf] at h; exact k32_ok f T C r outs h
  | true =>
    have hf' := Nat.eq_of_beq_eq_true hf
    subst hf'
    rw [hf] at h
    dsimp only at h
    cases hs : sp23 T C with
    | none => rw [hs] at h; exact k32_ok _ T C r outs h
    | some x =>
      rw [hs] at h
      have hx : x = (true, r, outs) := by simpa using h
      subst hx
      unfold sp23 at hs
      split at hs
      · rename_i g s d
        obtain ⟨hb, rfl, rfl⟩ := spT_inv hs
        have he := ev23 g s d
        rw [hb, cond_true] at he
        obtain ⟨r0, o0, h0, he⟩ := evFin_inv he
        obtain ⟨h1, h2⟩ := fn_ok mixed plain (gk_ok k32_ok 30) Try.func23 (fun c _ => LoopsOK.none (fun _ _ => rfl) c) h0
        exact ⟨h1, h2.fin he⟩
      · cases hs
noncomputable def vev24_0 (g : Int) (s : List UInt8) (d : Bool) : Int := bif bif d then bif g != (0 : Int) then true else !s == (ByteArray.mk #[]).data.toList else false then (4 : Int) else bif bif decide (g < (0 : Int)) then true else decide (g > (24 : Int)) then (8 : Int) else bif bif decide (g < (24 : Int)) then !s == (ByteArray.mk #[]).data.toList else false then (10 : Int) else bif vev32_0 s != (0 : Int) then (5 : Int) else (0 : Int)
noncomputable def vev24_1 (g : Int) (s : List UInt8) (d : Bool) : Bool := bif bif d then bif g != (0 : Int) then true else !s == (ByteArray.mk #[]).data.toList else false then true else bif bif decide (g < (0 : Int)) then true else decide (g > (24 : Int)) then true else bif bif decide (g < (24 : Int)) then !s == (ByteArray.mk #[]).data.toList else false then true else bif vev32_1 s then true else false
theorem ev24 (g : Int) (s : List UInt8) (d : Bool) : evFin (cfg Try.prog tab 100000 (gk k23 30) noLsp 24 ([] : List Blk).length Try.f24.ntmps) ([] : List Blk).length Try.f24.resultTypes.toList Try.f24 [.agg [.int .i64 g, .str s, .bool d]] [] = bif vev24_1 g s d then some (true, AV.int IntKind.i64 (vev24_0 g s d), []) else none := by
  have h : evFin (cfg Try.prog tab 100000 (gk k23 30) noLsp 24 ([] : List Blk).length Try.f24.ntmps) ([] : List Blk).length Try.f24.resultTypes.toList Try.f24 [.agg [.int .i64 g, .str s, .bool d]] [] = bif bif d then bif g != (0 : Int) then true else true else true then bif bif d then bif g != (0 : Int) then bif true then true else false else bif true then bif false then true else !s == (ByteArray.mk #[]).data.toList else false else false then some (true, AV.int IntKind.i64 (4 : Int), []) else bif bif decide (g < (0 : Int)) then true else true then bif bif decide (g < (0 : Int)) then true else bif false then true else decide (g > (24 : Int)) then some (true, AV.int IntKind.i64 (8 : Int), []) else bif bif decide (g < (24 : Int)) then true else true then bif bif decide (g < (24 : Int)) then bif true then !s == (ByteArray.mk #[]).data.toList else false else false then some (true, AV.int IntKind.i64 (10 : Int), []) else bif vev32_1 s then bif vev32_0 s != (0 : Int) then some (true, AV.int IntKind.i64 (5 : Int), []) else some (true, AV.int IntKind.i64 (0 : Int), []) else none else none else none else none := by kernel_rfl
  rw [h]
  clear h
  unfold vev24_0 vev24_1
  generalize (!s == (ByteArray.mk #[]).data.toList) = c0
  generalize (decide (g > (24 : Int))) = c1
  generalize (decide (g < (0 : Int))) = c2
  generalize (decide (g < (24 : Int))) = c3
  generalize (vev32_0 s != (0 : Int)) = c4
  generalize (g != (0 : Int)) = c5
  generalize (vev32_1 s) = c6
  generalize (d) = c7
  cases c7
  · skip
    cases c2
    · skip
      cases c1
      · skip
        cases c3
        · skip
          cases c6
          · skip
            rfl
          · skip
            cases c4
            · skip
              rfl
            · skip
              rfl
        · skip
          cases c0
          · skip
            cases c6
            · skip
              rfl
            · skip
              cases c4
              · skip
                rfl
              · skip
                rfl
          · skip
            rfl
      · skip
        rfl
    · skip
      rfl
  · skip
    cases c5
    · skip
      cases c0
      · skip
        cases c2
        · skip
          cases c1
          · skip
            cases c3
            · skip
              cases c6
              · skip
                rfl
              · skip
                cases c4
                · skip
                  rfl
                · skip
                  rfl
            · skip
              cases c6
              · skip
                rfl
              · skip
                cases c4
                · skip
                  rfl
                · skip
                  rfl
          · skip
            rfl
        · skip
          rfl
      · skip
        rfl
    · skip
      rfl
-- spec vev24_1 g s d ;; (true, AV.int IntKind.i64 (vev24_0 g s d), [])
noncomputable def sp24 : List AV → List Blk → Option (Bool × AV × List Blk)
  | [.agg [.int .i64 g, .str s, .bool d]], [] => spW (vev24_1 g s d) (some ((true, AV.int IntKind.i64 (vev24_0 g s d), [])))
  | _, _ => none
noncomputable def k24 : Gam := fun f T C => match Nat.beq f 24 with
  | true => (sp24 T C).or (k23 f T C)
  | false => k23 f T C
theorem k24_ok : GamOK Try.prog k24 := by
  intro f T C r outs h
  unfold k24 at h
  cases hf : Nat.beq f 24 with
  | false => rw [hf] at h; exact k23_ok f T C r outs h
  | true =>
    have hf' := Nat.eq_of_beq_eq_true hf
    subst hf'
    rw [hf] at h
    dsimp only at h
    cases hs : sp24 T C with
    | none => rw [hs] at h; exact k23_ok _ T C r outs h
    | some x =>
      rw [hs] at h
      have hx : x = (true, r, outs) := by simpa using h
      subst hx
      unfold sp24 at hs
      split at hs
      · rename_i g s d
        obtain ⟨hb, rfl, rfl⟩ := spT_inv hs
        have he := ev24 g s d
        rw [hb, cond_true] at he
        obtain ⟨r0, o0, h0, he⟩ := evFin_inv he
        obtain ⟨h1, h2⟩ := fn_ok mixed plain (gk_ok k23_ok 30) Try.func24 (fun c _ => LoopsOK.none (fun _ _ => rfl) c) h0
        exact ⟨h1, h2.fin he⟩
      · cases hs
noncomputable def vev25_0 (g : Int) (s : List UInt8) (d : Bool) : Int := bif bif d then true else bif vev33_5 s then vev23_0 g s d != (0 : Int) else false then (0 : Int) else bif decide (g < (24 : Int)) then IntKind.i64.wrap ((24 : Int) - g) else bif vev33_4 s then IntKind.i64.wrap (IntKind.i64.wrap ((9 : Int) + vev33_0 s) - (↑s.length : Int)) else IntKind.i64.wrap ((9 : Int) - (↑s.length : Int))
noncomputable def vev25_1 (g : Int) (s : List UInt8) (d : Bool) : Bool := bif bif d then true else vev33_5 s then bif bif d then true else bif vev33_5 s then vev23_0 g s d != (0 : Int) else false then true else bif decide (g < (24 : Int)) then true else bif vev33_5 s then true else false else false
theorem ev25 (g : Int) (s : List UInt8) (d : Bool) : evFin (cfg Try.prog tab 100000 (gk k24 30) noLsp 25 ([] : List Blk).length Try.f25.ntmps) ([] : List Blk).length Try.f25.resultTypes.toList Try.f25 [.agg [.int .i64 g, .str s, .bool d]] [] = bif vev25_1 g s d then some (true, AV.int IntKind.i64 (vev25_0 g s d), []) else none := by
  have h : evFin (cfg Try.prog tab 100000 (gk k24 30) noLsp 25 ([] : List Blk).length Try.f25.ntmps) ([] : List Blk).length Try.f25.resultTypes.toList Try.f25 [.agg [.int .i64 g, .str s, .bool d]] [] = bif bif d then true else bif bif vev33_5 s then true else false then true else false then bif bif d then true else bif bif vev33_5 s then true else false then bif false then true else vev23_0 g s d != (0 : Int) else false then some (true, AV.int IntKind.i64 (0 : Int), []) else bif decide (g < (24 : Int)) then some (true, AV.int IntKind.i64 (IntKind.i64.wrap ((24 : Int) - g)), []) else bif vev33_5 s then bif vev33_4 s then some (true, AV.int IntKind.i64 (IntKind.i64.wrap (IntKind.i64.wrap ((9 : Int) + vev33_0 s) - (↑s.length : Int))), []) else some (true, AV.int IntKind.i64 (IntKind.i64.wrap ((9 : Int) - (↑s.length : Int))), []) else none else none := by kernel_rfl
  rw [h]
  clear h
  unfold vev25_0 vev25_1
  generalize (decide (g < (24 : Int))) = c0
  generalize (vev23_0 g s d != (0 : Int)) = c1
  generalize (vev33_4 s) = c2
  generalize (vev33_5 s) = c3
  generalize (d) = c4
  cases c4
  · skip
    cases c3
    · skip
      rfl
    · skip
      cases c1
      · skip
        cases c0
        · skip
          cases c2
          · skip
            rfl
          · skip
            rfl
        · skip
          rfl
      · skip
        rfl
  · skip
    rfl
-- spec vev25_1 g s d ;; (true, AV.int IntKind.i64 (vev25_0 g s d), [])
noncomputable def sp25 : List AV → List Blk → Option (Bool × AV × List Blk)
  | [.agg [.int .i64 g, .str s, .bool d]], [] => spW (vev25_1 g s d) (some ((true, AV.int IntKind.i64 (vev25_0 g s d), [])))
  | _, _ => none
noncomputable def k25 : Gam := fun f T C => match Nat.beq f 25 with
  | true => (sp25 T C).or (k24 f T C)
  | false => k24 f T C
theorem k25_ok : GamOK Try.prog k25 := by
  intro f T C r outs h
  unfold k25 at h
  cases hf : Nat.beq f 25 with
  | false => rw [hf] at h; exact k24_ok f T C r outs h
  | true =>
    have hf' := Nat.eq_of_beq_eq_true hf
    subst hf'
    rw [hf] at h
    dsimp only at h
    cases hs : sp25 T C with
    | none => rw [hs] at h; exact k24_ok _ T C r outs h
    | some x =>
      rw [hs] at h
      have hx : x = (true, r, outs) := by simpa using h
      subst hx
      unfold sp25 at hs
      split at hs
      · rename_i g s d
        obtain ⟨hb, rfl, rfl⟩ := spT_inv hs
        have he := ev25 g s d
        rw [hb, cond_true] at he
        obtain ⟨r0, o0, h0, he⟩ := evFin_inv he
        obtain ⟨h1, h2⟩ := fn_ok mixed plain (gk_ok k24_ok 30) Try.func25 (fun c _ => LoopsOK.none (fun _ _ => rfl) c) h0
        exact ⟨h1, h2.fin he⟩
      · cases hs
noncomputable def vev26_0 (g : Int) (s : List UInt8) (d : Bool) : Int := bif bif vev24_1 g s d then bif vev24_0 g s d != (0 : Int) then true else d else false then (0 : Int) else bif decide (g < (24 : Int)) then IntKind.i64.wrap ((24 : Int) - g) else bif vev15_4 Tk.imm (List.map ofB s) != (0 : Int) then IntKind.i64.wrap ((9 : Int) - (↑s.length : Int)) else IntKind.i64.wrap (IntKind.i64.wrap ((9 : Int) + vev15_0 Tk.imm (List.map ofB s)) - (↑s.length : Int))
noncomputable def vev26_1 (g : Int) (s : List UInt8) (d : Bool) : Bool := bif decide (s.length ≤ (4611686018427387904 : Nat)) then bif vev15_5 Tk.imm (List.map ofB s) then bif vev24_1 g s d then true else false else false else false
theorem ev26 (g : Int) (s : List UInt8) (d : Bool) : evFin (cfg Try.prog tab 100000 (gk k25 30) noLsp 26 ([] : List Blk).length Try.f26.ntmps) ([] : List Blk).length Try.f26.resultTypes.toList Try.f26 [.agg [.int .i64 g, .str s, .bool d]] [] = bif vev26_1 g s d then some (true, AV.int IntKind.i64 (vev26_0 g s d), []) else none := by
  have h : evFin (cfg Try.prog tab 100000 (gk k25 30) noLsp 26 ([] : List Blk).length Try.f26.ntmps) ([] : List Blk).length Try.f26.resultTypes.toList Try.f26 [.agg [.int .i64 g, .str s, .bool d]] [] = bif decide (s.length ≤ (4611686018427387904 : Nat)) then bif vev15_5 Tk.imm (List.map ofB s) then bif bif vev24_1 g s d then bif vev24_0 g s d != (0 : Int) then true else true else false then bif bif vev24_1 g s d then bif vev24_0 g s d != (0 : Int) then true else bif false then true else d else false then some (true, AV.int IntKind.i64 (0 : Int), []) else bif decide (g < (24 : Int)) then some (true, AV.int IntKind.i64 (IntKind.i64.wrap ((24 : Int) - g)), []) else bif vev15_4 Tk.imm (List.map ofB s) != (0 : Int) then some (true, AV.int IntKind.i64 (IntKind.i64.wrap ((9 : Int) - (↑s.length : Int))), []) else some (true, AV.int IntKind.i64 (IntKind.i64.wrap (IntKind.i64.wrap ((9 : Int) + vev15_0 Tk.imm (List.map ofB s)) - (↑s.length : Int))), []) else none else none else none := by kernel_rfl
  rw [h]
  clear h
  unfold vev26_0 vev26_1
  generalize (decide (s.length ≤ (4611686018427387904 : Nat))) = c0
  generalize (vev15_4 Tk.imm (List.map ofB s) != (0 : Int)) = c1
  generalize (decide (g < (24 : Int))) = c2
  generalize (vev24_0 g s d != (0 : Int)) = c3
  generalize (vev15_5 Tk.imm (List.map ofB s)) = c4
  generalize (vev24_1 g s d) = c5
  generalize (d) = c6
  cases c0
  · skip
    rfl
  · skip
    cases c4
    · skip
      rfl
    · skip
      cases c5
      · skip
        rfl
      · skip
        cases c3
        · skip
          cases c6
          · skip
            cases c2
            · skip
              cases c1
              · skip
                rfl
              · skip
                rfl
            · skip
              rfl
          · skip
            rfl
        · skip
          rfl
-- spec vev26_1 g s d ;; (true, AV.int IntKind.i64 (vev26_0 g s d), [])
noncomputable def sp26 : List AV → List Blk → Option (Bool × AV × List Blk)
  | [.agg [.int .i64 g, .str s, .bool d]], [] => spW (vev26_1 g s d) (some ((true, AV.int IntKind.i64 (vev26_0 g s d), [])))
  | _, _ => none
noncomputable def k26 : Gam := fun f T C => match Nat.beq f 26 with
  | true => (sp26 T C).or (k25 f T C)
  | false => k25 f T C
theorem k26_ok : GamOK Try.prog k26 := by
  intro f T C r outs h
  unfold k26 at h
  cases hf : Nat.beq f 26 with
  | false => rw [hf] at h; exact k25_ok f T C r outs h
  | true =>
    have hf' := Nat.eq_of_beq_eq_true hf
    subst hf'
    rw [hf] at h
    dsimp only at h
    cases hs : sp26 T C with
    | none => rw [hs] at h; exact k25_ok _ T C r outs h
    | some x =>
      rw [hs] at h
      have hx : x = (true, r, outs) := by simpa using h
      subst hx
      unfold sp26 at hs
      split at hs
      · rename_i g s d
        obtain ⟨hb, rfl, rfl⟩ := spT_inv hs
        have he := ev26 g s d
        rw [hb, cond_true] at he
        obtain ⟨r0, o0, h0, he⟩ := evFin_inv he
        obtain ⟨h1, h2⟩ := fn_ok mixed plain (gk_ok k25_ok 30) Try.func26 (fun c _ => LoopsOK.none (fun _ _ => rfl) c) h0
        exact ⟨h1, h2.fin he⟩
      · cases hs
noncomputable def vev27_0 (g : Int) (s : List UInt8) (d : Bool) (g2 : Int) (s2 : List UInt8) (d2 : Bool) : Bool := g == g2 && (s == s2 && (d == d2 && true))
theorem ev27 (g : Int) (s : List UInt8) (d : Bool) (g2 : Int) (s2 : List UInt8) (d2 : Bool) : evFin (cfg Try.prog tab 100000 (gk k26 30) noLsp 27 ([] : List Blk).length Try.f27.ntmps) ([] : List Blk).length Try.f27.resultTypes.toList Try.f27 [.agg [.int .i64 g, .str s, .bool d], .agg [.int .i64 g2, .str s2, .bool d2]] [] = some (true, AV.bool (vev27_0 g s d g2 s2 d2), []) := by kernel_rfl
-- spec true ;; (true, AV.bool (vev27_0 g s d g2 s2 d2), [])
noncomputable def sp27 : List AV → List Blk → Option (Bool × AV × List Blk)
  | [.agg [.int .i64 g, .str s, .bool d], .agg [.int .i64 g2, .str s2, .bool d2]], [] => spW (true) (some ((true, AV.bool (vev27_0 g s d g2 s2 d2), [])))
  | _, _ => none
noncomputable def k27 : Gam := fun f T C => match Nat.beq f 27 with
  | true => (sp27 T C).or (k26 f T C)
  | false => k26 f T C
theorem k27_ok : GamOK Try.prog k27 := by
  intro f T C r outs h
  unfold k27 at h
  cases hf : Nat.beq f 27 with
  | false => rw [hf] at h; exact k26_ok f T C r outs h
  | true =>
    have hf' := Nat.eq_of_beq_eq_true hf
    subst hf'
    rw [hf] at h
    dsimp only at h
    cases hs : sp27 T C with
    | none => rw [hs] at h; exact k26_ok _ T C r outs h
    | some x =>
      rw [hs] at h
      have hx : x = (true, r, outs) := by simpa using h
      subst hx
      unfold sp27 at hs
      split at hs
      · rename_i g s d g2 s2 d2
        obtain ⟨hb, rfl, rfl⟩ := spT_inv hs
        have he := ev27 g s d g2 s2 d2
        obtain ⟨r0, o0, h0, he⟩ := evFin_inv he
        obtain ⟨h1, h2⟩ := fn_ok mixed plain (gk_ok k26_ok 30) Try.func27 (fun c _ => LoopsOK.none (fun _ _ => rfl) c) h0
        exact ⟨h1, h2.fin he⟩
      · cases hs
end Go.Proofs.Gv
