import Derived.Test.YtndephedgodneaaGt
import Derived.KernelRfl
import Derived.Test.YtndephedgodneaaGwF
namespace Go.Proofs.Gv
open Go.Proofs
set_option linter.unusedVariables false
theorem mixed : Try.prog.follows .mixedOrders = true := by kernel_rfl
theorem plain : plainNames Try.prog = true := by kernel_rfl
def k0 : Gam := fun _ _ _ => none
theorem k0_ok : GamOK Try.prog k0 := GamOK.none _
noncomputable abbrev gk (k : Gam) : Nat → Gam := gamN Try.prog tab 100000 k
theorem gk_ok {k : Gam} (h : GamOK Try.prog k) (d : Nat) : GamOK Try.prog (gk k d) := gamN_ok mixed plain h d
def spW (ok : Bool) (x : Option (Bool × AV × List Blk)) : Option (Bool × AV × List Blk) :=
  match x with
  | some (_, r, o) => some (ok, r, o)
  | none => none
theorem fin_some {P : Program} {frz : Bool} {m : Nat} {ts : List TypeId} {x : Option (AV × List Blk)} {b : Bool} {r : AV} {o : List Blk} (h : fin P frz m ts x = some (b, r, o)) : ∃ r0 o0, x = some (r0, o0) := by
  cases x with
  | none => cases h
  | some p => exact ⟨p.1, p.2, rfl⟩
theorem spT_inv {ok b' : Bool} {r r' : AV} {o o' : List Blk} (h : spW ok (some (b', r', o')) = some (true, r, o)) : ok = true ∧ r' = r ∧ o' = o := by
  unfold spW at h
  injection h with h
  injection h with h1 h
  injection h with h2 h3
  exact ⟨h1, h2, h3⟩
theorem fin_true {P : Program} {frz : Bool} {m : Nat} {ts : List TypeId} {x : Option (AV × List Blk)} {b : Bool} {r : AV} {o : List Blk} (h : fin P frz m ts x = some (b, r, o)) : b = true := by
  unfold fin at h
  split at h
  · split at h <;> (injection h with h; injection h with h; exact h.symm)
  · cases h
theorem spW_inv {P : Program} {frz : Bool} {m : Nat} {ts : List TypeId} {x : Option (AV × List Blk)} {ok : Bool} {r : AV} {o : List Blk} (h : spW ok (fin P frz m ts x) = some (true, r, o)) : ok = true ∧ fin P frz m ts x = some (true, r, o) := by
  unfold spW at h
  split at h
  · rename_i b r' o' he
    injection h with h
    injection h with h1 h
    injection h with h2 h3
    subst h1 h2 h3
    have := fin_true he
    subst this
    exact ⟨rfl, he⟩
  · cases h
theorem aw11 : gk k0 30 11 [] [] = some (true, .bool true, []) := by kernel_rfl
noncomputable def k11 : Gam := fun f T C => match Nat.beq f 11, T, C with
  | true, [], [] => some (true, .bool true, [])
  | _, T, C => k0 f T C
theorem k11_ok : GamOK Try.prog k11 := by
  intro f T C r outs h
  unfold k11 at h
  split at h
  · rename_i hf
    have hf' := Nat.eq_of_beq_eq_true hf
    subst hf'
    have hx : (true, AV.bool true, ([] : List Blk)) = (true, r, outs) := by simpa using h
    injection hx with _ hx
    injection hx with h1 h2
    subst h1 h2
    exact gk_ok k0_ok 30 11 [] [] _ _ aw11
  · exact k0_ok _ _ _ r outs h
noncomputable def go58_3 (t0 : List UInt8) (t3 t6 t7 : Int) : Bool := bif decide (t7 < t6) then decide ((0 : Int) ≤ t7) && decide (t7 < (↑t0.length : Int)) else false
noncomputable def nx58_3_1 (t0 : List UInt8) (t3 t6 t7 : Int) : Int := bits BinOp.or IntKind.u32 (IntKind.u32.wrap (t3 * (2 : Int) ^ min (Int.toNat (8 : Int)) IntKind.u32.bits)) (IntKind.u32.wrap (↑(t0.getD t7.toNat (0 : UInt8)).toNat : Int))
noncomputable def nx58_3_3 (t0 : List UInt8) (t3 t6 t7 : Int) : Int := IntKind.i64.wrap (t7 + (1 : Int))
noncomputable def xc58_3_0 (t0 : List UInt8) (t3 t6 t7 : Int) : Bool := bif decide (t7 < t6) then false else true
theorem rd58_3 (rest : Lsp) (t0 : List UInt8) (t3 t6 t7 : Int) : roundV (cfg Try.prog tab 100000 (gk k11 30) rest 58 0 Try.f58.ntmps) (loopAt Try.f58 3) [0, 3, 6, 7] [] [3] [] [AV.str t0, AV.int IntKind.u32 t3, AV.int IntKind.i64 t6, AV.int IntKind.i64 t7] [] = bif go58_3 t0 t3 t6 t7 then some (Ex.norm, [AV.str t0, AV.int IntKind.u32 (nx58_3_1 t0 t3 t6 t7), AV.int IntKind.i64 t6, AV.int IntKind.i64 (nx58_3_3 t0 t3 t6 t7)], []) else bif xc58_3_0 t0 t3 t6 t7 then some (Ex.exit (nat_lit 0), [AV.int IntKind.u32 t3], []) else none := by
  have h : roundV (cfg Try.prog tab 100000 (gk k11 30) rest 58 0 Try.f58.ntmps) (loopAt Try.f58 3) [0, 3, 6, 7] [] [3] [] [AV.str t0, AV.int IntKind.u32 t3, AV.int IntKind.i64 t6, AV.int IntKind.i64 t7] [] = bif decide (t7 < t6) then bif decide ((0 : Int) ≤ t7) && decide (t7 < (↑t0.length : Int)) then some (Ex.norm, [AV.str t0, AV.int IntKind.u32 (bits BinOp.or IntKind.u32 (IntKind.u32.wrap (t3 * (2 : Int) ^ min (Int.toNat (8 : Int)) IntKind.u32.bits)) (IntKind.u32.wrap (↑(t0.getD t7.toNat (0 : UInt8)).toNat : Int))), AV.int IntKind.i64 t6, AV.int IntKind.i64 (IntKind.i64.wrap (t7 + (1 : Int)))], []) else none else some (Ex.exit (nat_lit 0), [AV.int IntKind.u32 t3], []) := by kernel_rfl
  rw [h]
  clear h
  unfold go58_3 nx58_3_1 nx58_3_3 xc58_3_0
  generalize (decide ((0 : Int) ≤ t7) && decide (t7 < (↑t0.length : Int))) = c0
  generalize (decide (t7 < t6)) = c1
  cases c1; rfl; cases c0; rfl; rfl
abbrev pl58_3 : Type := (List UInt8) × Int
abbrev sl58_3 : Type := Int × Int
noncomputable def vt58_3 (a : pl58_3 × sl58_3) : List AV := [AV.str a.1.1, AV.int IntKind.u32 a.2.1, AV.int IntKind.i64 a.1.2, AV.int IntKind.i64 a.2.2]
noncomputable def vc58_3 (a : pl58_3 × sl58_3) : List Blk := []
noncomputable def de58_3 (vt : List AV) (vc : List Blk) : Option (pl58_3 × sl58_3) :=
  match vt with
  | [qa0, qa1, qa2, qa3] => (match vc with
  | [] => (match qa0 with
  | AV.str t0 => (match qa1 with
  | AV.int IntKind.u32 t3 => (match qa2 with
  | AV.int IntKind.i64 t6 => (match qa3 with
  | AV.int IntKind.i64 t7 => (some ((t0, t6), (t3, t7)))
  | _ => none)
  | _ => none)
  | _ => none)
  | _ => none)
  | _ => none)
  | _ => none
theorem de58_3_ok (vt : List AV) (vc : List Blk) (a : pl58_3 × sl58_3) (h : de58_3 vt vc = some a) : vt = vt58_3 a ∧ vc = vc58_3 a := by
  unfold de58_3 at h
  split at h
  rotate_left
  · cases h
  split at h
  rotate_left
  · cases h
  split at h
  rotate_left
  · cases h
  split at h
  rotate_left
  · cases h
  split at h
  rotate_left
  · cases h
  split at h
  rotate_left
  · cases h
  injection h with h
  subst h
  exact ⟨rfl, rfl⟩
noncomputable def g58_3 (p : pl58_3) (s : sl58_3) : Bool := go58_3 p.1 s.1 p.2 s.2
noncomputable def n58_3 (p : pl58_3) (s : sl58_3) : sl58_3 := (nx58_3_1 p.1 s.1 p.2 s.2, nx58_3_3 p.1 s.1 p.2 s.2)
noncomputable def y58_3 (p : pl58_3) (s : sl58_3) : List (Bool × Out) := []
noncomputable def z58_3 (p : pl58_3) (s : sl58_3) : Bool := xc58_3_0 p.1 s.1 p.2 s.2
noncomputable def d58_3 (p : pl58_3) (s : sl58_3) : Out := (Ex.exit (nat_lit 0), [AV.int IntKind.u32 s.1], [])
noncomputable def ls58_3 : St → Option (Bool × List (Bool × Ex × St) × Ex × St) := lspOf [0, 3, 6, 7] [] [3] [] Try.f58.ntmps (0 + tab.nid 58) de58_3 (spI g58_3 n58_3 y58_3 z58_3 d58_3)
theorem lo58_3 (rest : Lsp) : LoopOK1 (cfg Try.prog tab 100000 (gk k11 30) (selL 3 ls58_3 rest) 58 0 Try.f58.ntmps) (loopAt Try.f58 3) := LoopOK1.iter (i := 3) (by kernel_rfl) [0, 3, 6, 7] [] [3] [] vt58_3 vc58_3 de58_3 g58_3 n58_3 y58_3 z58_3 d58_3 (fun _ => rfl) de58_3_ok (fun p s => rd58_3 (selL 3 ls58_3 rest) (p.1) (s.1) (p.2) (s.2)) (fun _ _ => rfl)
noncomputable def lsp58 : Lsp := (selL 3 ls58_3 noLsp)
theorem loops58 : ∀ c, Try.f58.body = some c → LoopsOK (cfg Try.prog tab 100000 (gk k11 30) lsp58 58 0 Try.f58.ntmps) c := loops_of [3] (by kernel_rfl) (by kernel_rfl) (fun i hi => by
  simp only [List.mem_cons, List.not_mem_nil, or_false] at hi
  subst hi
  · exact lo58_3 noLsp)
noncomputable def rev58_0 (s : List UInt8) : sl58_3 := finL (g58_3 (s, (↑s.length : Int))) (n58_3 (s, (↑s.length : Int))) ((0 : Int), (0 : Int))
noncomputable def vev58_0 (s : List UInt8) : Bool := bif (spI g58_3 n58_3 y58_3 z58_3 d58_3 ((s, (↑s.length : Int)), (0 : Int), (0 : Int))).fst then true else false
theorem ev58 (s : List UInt8) : evFin (cfg Try.prog tab 100000 (gk k11 30) lsp58 58 ([] : List Blk).length Try.f58.ntmps) ([] : List Blk).length Try.f58.resultTypes.toList Try.f58 [.str s] [] = bif vev58_0 s then some (true, AV.int IntKind.u32 (rev58_0 s).fst, []) else none := by
  have h : evFin (cfg Try.prog tab 100000 (gk k11 30) lsp58 58 ([] : List Blk).length Try.f58.ntmps) ([] : List Blk).length Try.f58.resultTypes.toList Try.f58 [.str s] [] = bif (spI g58_3 n58_3 y58_3 z58_3 d58_3 ((s, (↑s.length : Int)), (0 : Int), (0 : Int))).fst then some (true, AV.int IntKind.u32 (rev58_0 s).fst, []) else none := by kernel_rfl
  rw [h]
  clear h
  unfold vev58_0
  generalize ((spI g58_3 n58_3 y58_3 z58_3 d58_3 ((s, (↑s.length : Int)), (0 : Int), (0 : Int))).fst) = c0
  cases c0
  · skip
    rfl
  · skip
    rfl
-- spec vev58_0 s ;; (true, AV.int IntKind.u32 (rev58_0 s).fst, [])
noncomputable def sp58 : List AV → List Blk → Option (Bool × AV × List Blk)
  | [.str s], [] => spW (vev58_0 s) (some ((true, AV.int IntKind.u32 (rev58_0 s).fst, [])))
  | _, _ => none
noncomputable def k58 : Gam := fun f T C => match Nat.beq f 58 with
  | true => (sp58 T C).or (k11 f T C)
  | false => k11 f T C
theorem k58_ok : GamOK Try.prog k58 := by
  intro f T C r outs h
  unfold k58 at h
  cases hf : Nat.beq f 58 with
  | false => rw [hf] at h; exact k11_ok f T C r outs h
  | true =>
    have hf' := Nat.eq_of_beq_eq_true hf
    subst hf'
    rw [hf] at h
    dsimp only at h
    cases hs : sp58 T C with
    | none => rw [hs] at h; exact k11_ok _ T C r outs h
    | some x =>
      rw [hs] at h
      have hx : x = (true, r, outs) := by simpa using h
      subst hx
      unfold sp58 at hs
      split at hs
      · rename_i s
        obtain ⟨hb, rfl, rfl⟩ := spT_inv hs
        have he := ev58 s
        rw [hb, cond_true] at he
        obtain ⟨r0, o0, h0, he⟩ := evFin_inv he
        obtain ⟨h1, h2⟩ := fn_ok mixed plain (gk_ok k11_ok 30) Try.func58 loops58 h0
        exact ⟨h1, h2.fin he⟩
      · cases hs
noncomputable def rev59_0 (s : List UInt8) : List UInt8 := List.take (Int.toNat (4 : Int)) s
noncomputable def vev59_0 (s : List UInt8) : Int := IntKind.i64.wrap (bits BinOp.and IntKind.u32 (rev58_0 (rev59_0 s)).fst (2147483647 : Int))
noncomputable def vev59_1 (s : List UInt8) : Bool := bif bnd (0 : Int) (4 : Int) (↑s.length : Int) then bif vev58_0 (rev59_0 s) then true else false else false
theorem ev59 (s : List UInt8) : evFin (cfg Try.prog tab 100000 (gk k58 30) noLsp 59 ([] : List Blk).length Try.f59.ntmps) ([] : List Blk).length Try.f59.resultTypes.toList Try.f59 [.str s] [] = bif vev59_1 s then some (true, AV.int IntKind.i64 (vev59_0 s), []) else none := by
  have h : evFin (cfg Try.prog tab 100000 (gk k58 30) noLsp 59 ([] : List Blk).length Try.f59.ntmps) ([] : List Blk).length Try.f59.resultTypes.toList Try.f59 [.str s] [] = bif bnd (0 : Int) (4 : Int) (↑s.length : Int) then bif vev58_0 (rev59_0 s) then some (true, AV.int IntKind.i64 (IntKind.i64.wrap (bits BinOp.and IntKind.u32 (rev58_0 (rev59_0 s)).fst (2147483647 : Int))), []) else none else none := by kernel_rfl
  rw [h]
  clear h
  unfold vev59_0 vev59_1
  generalize (bnd (0 : Int) (4 : Int) (↑s.length : Int)) = c0
  generalize (vev58_0 (rev59_0 s)) = c1
  cases c0; rfl; cases c1; rfl; rfl
-- spec vev59_1 s ;; (true, AV.int IntKind.i64 (vev59_0 s), [])
noncomputable def sp59 : List AV → List Blk → Option (Bool × AV × List Blk)
  | [.str s], [] => spW (vev59_1 s) (some ((true, AV.int IntKind.i64 (vev59_0 s), [])))
  | _, _ => none
noncomputable def k59 : Gam := fun f T C => match Nat.beq f 59 with
  | true => (sp59 T C).or (k58 f T C)
  | false => k58 f T C
theorem k59_ok : GamOK Try.prog k59 := by
  intro f T C r outs h
  unfold k59 at h
  cases hf : Nat.beq f 59 with
  | false => rw [hf] at h; exact k58_ok f T C r outs h
  | true =>
    have hf' := Nat.eq_of_beq_eq_true hf
    subst hf'
    rw [hf] at h
    dsimp only at h
    cases hs : sp59 T C with
    | none => rw [hs] at h; exact k58_ok _ T C r outs h
    | some x =>
      rw [hs] at h
      have hx : x = (true, r, outs) := by simpa using h
      subst hx
      unfold sp59 at hs
      split at hs
      · rename_i s
        obtain ⟨hb, rfl, rfl⟩ := spT_inv hs
        have he := ev59 s
        rw [hb, cond_true] at he
        obtain ⟨r0, o0, h0, he⟩ := evFin_inv he
        obtain ⟨h1, h2⟩ := fn_ok mixed plain (gk_ok k58_ok 30) Try.func59 (fun c _ => LoopsOK.none (fun _ _ => rfl) c) h0
        exact ⟨h1, h2.fin he⟩
      · cases hs
noncomputable def vev56n_0 (t g n : Int) (d : List UInt8) (pa de : Int) (so : Bool) (we co la inc fl : Int) : Bool := bits BinOp.and IntKind.u8 g fl != (0 : Int)
theorem ev56n (t g n : Int) (d : List UInt8) (pa de : Int) (so : Bool) (we co la inc fl : Int) : evFin (cfg Try.prog tab 100000 (gk k59 30) noLsp 56 ([] : List Blk).length Try.f56.ntmps) ([] : List Blk).length Try.f56.resultTypes.toList Try.f56 [.agg [.int .u8 t, .int .u8 g, .int .i64 n, .str d, .int .i64 pa, .int .i64 de, .bool so, .int .u8 we, .int .u32 co, .int .i64 la, .int .i64 inc, .nil], .int .u8 fl] [] = some (true, AV.bool (vev56n_0 t g n d pa de so we co la inc fl), []) := by kernel_rfl
-- spec true ;; (true, AV.bool (vev56n_0 t g n d pa de so we co la inc fl), [])
noncomputable def sp56n : List AV → List Blk → Option (Bool × AV × List Blk)
  | [.agg [.int .u8 t, .int .u8 g, .int .i64 n, .str d, .int .i64 pa, .int .i64 de, .bool so, .int .u8 we, .int .u32 co, .int .i64 la, .int .i64 inc, .nil], .int .u8 fl], [] => spW (true) (some ((true, AV.bool (vev56n_0 t g n d pa de so we co la inc fl), [])))
  | _, _ => none
noncomputable def k56n : Gam := fun f T C => match Nat.beq f 56 with
  | true => (sp56n T C).or (k59 f T C)
  | false => k59 f T C
theorem k56n_ok : GamOK Try.prog k56n := by
  intro f T C r outs h
  unfold k56n at h
  cases hf : Nat.beq f 56 with
  | false => rw [hf] at h; exact k59_ok f T C r outs h
  | true =>
    have hf' := Nat.eq_of_beq_eq_true hf
    subst hf'
    rw [hf] at h
    dsimp only at h
    cases hs : sp56n T C with
    | none => rw [hs] at h; exact k59_ok _ T C r outs h
    | some x =>
      rw [hs] at h
      have hx : x = (true, r, outs) := by simpa using h
      subst hx
      unfold sp56n at hs
      split at hs
      · rename_i t g n d pa de so we co la inc fl
        obtain ⟨hb, rfl, rfl⟩ := spT_inv hs
        have he := ev56n t g n d pa de so we co la inc fl
        obtain ⟨r0, o0, h0, he⟩ := evFin_inv he
        obtain ⟨h1, h2⟩ := fn_ok mixed plain (gk_ok k59_ok 30) Try.func56 (fun c _ => LoopsOK.none (fun _ _ => rfl) c) h0
        exact ⟨h1, h2.fin he⟩
      · cases hs
noncomputable def vev56_0 (t g n : Int) (d : List UInt8) (pa de : Int) (so : Bool) (we co la inc : Int) (tk : Tk) (ps : List (List AV)) (fl : Int) : Bool := bits BinOp.and IntKind.u8 g fl != (0 : Int)
theorem ev56 (t g n : Int) (d : List UInt8) (pa de : Int) (so : Bool) (we co la inc : Int) (tk : Tk) (ps : List (List AV)) (fl : Int) : evFin (cfg Try.prog tab 100000 (gk k56n 30) noLsp 56 ([] : List Blk).length Try.f56.ntmps) ([] : List Blk).length Try.f56.resultTypes.toList Try.f56 [.agg [.int .u8 t, .int .u8 g, .int .i64 n, .str d, .int .i64 pa, .int .i64 de, .bool so, .int .u8 we, .int .u32 co, .int .i64 la, .int .i64 inc, .sl tk [.int .u16, .int .u32] ps], .int .u8 fl] [] = some (true, AV.bool (vev56_0 t g n d pa de so we co la inc tk ps fl), []) := by kernel_rfl
-- spec true ;; (true, AV.bool (vev56_0 t g n d pa de so we co la inc tk ps fl), [])
noncomputable def sp56 : List AV → List Blk → Option (Bool × AV × List Blk)
  | [.agg [.int .u8 t, .int .u8 g, .int .i64 n, .str d, .int .i64 pa, .int .i64 de, .bool so, .int .u8 we, .int .u32 co, .int .i64 la, .int .i64 inc, .sl tk [.int .u16, .int .u32] ps], .int .u8 fl], [] => spW (true) (some ((true, AV.bool (vev56_0 t g n d pa de so we co la inc tk ps fl), [])))
  | _, _ => none
noncomputable def k56 : Gam := fun f T C => match Nat.beq f 56 with
  | true => (sp56 T C).or (k56n f T C)
  | false => k56n f T C
theorem k56_ok : GamOK Try.prog k56 := by
  intro f T C r outs h
  unfold k56 at h
  cases hf : Nat.beq f 56 with
  | false => rw [hf] at h; exact k56n_ok f T C r outs h
  | true =>
    have hf' := Nat.eq_of_beq_eq_true hf
    subst hf'
    rw [hf] at h
    dsimp only at h
    cases hs : sp56 T C with
    | none => rw [hs] at h; exact k56n_ok _ T C r outs h
    | some x =>
      rw [hs] at h
      have hx : x = (true, r, outs) := by simpa using h
      subst hx
      unfold sp56 at hs
      split at hs
      · rename_i t g n d pa de so we co la inc tk ps fl
        obtain ⟨hb, rfl, rfl⟩ := spT_inv hs
        have he := ev56 t g n d pa de so we co la inc tk ps fl
        obtain ⟨r0, o0, h0, he⟩ := evFin_inv he
        obtain ⟨h1, h2⟩ := fn_ok mixed plain (gk_ok k56n_ok 30) Try.func56 (fun c _ => LoopsOK.none (fun _ _ => rfl) c) h0
        exact ⟨h1, h2.fin he⟩
      · cases hs
noncomputable def vev64_0 (t g n : Int) (d : List UInt8) (pa de : Int) (so : Bool) (we co la inc : Int) (tk : Tk) (ps : List (List AV)) : Bool := bif t == (0 : Int) then bif true then vev56_0 t g n d pa de so we co la inc tk ps (8 : Int) else false else bif bif false then true else t == (1 : Int) then bif true then vev56_0 t g n d pa de so we co la inc tk ps (8 : Int) else false else false
theorem ev64 (t g n : Int) (d : List UInt8) (pa de : Int) (so : Bool) (we co la inc : Int) (tk : Tk) (ps : List (List AV)) : evFin (cfg Try.prog tab 100000 (gk k56 30) noLsp 64 ([] : List Blk).length Try.f64.ntmps) ([] : List Blk).length Try.f64.resultTypes.toList Try.f64 [.agg [.int .u8 t, .int .u8 g, .int .i64 n, .str d, .int .i64 pa, .int .i64 de, .bool so, .int .u8 we, .int .u32 co, .int .i64 la, .int .i64 inc, .sl tk [.int .u16, .int .u32] ps]] [] = bif true then some (true, AV.bool (vev64_0 t g n d pa de so we co la inc tk ps), []) else none := by
  have h : evFin (cfg Try.prog tab 100000 (gk k56 30) noLsp 64 ([] : List Blk).length Try.f64.ntmps) ([] : List Blk).length Try.f64.resultTypes.toList Try.f64 [.agg [.int .u8 t, .int .u8 g, .int .i64 n, .str d, .int .i64 pa, .int .i64 de, .bool so, .int .u8 we, .int .u32 co, .int .i64 la, .int .i64 inc, .sl tk [.int .u16, .int .u32] ps]] [] = bif bif t == (0 : Int) then true else bif bif false then true else t == (1 : Int) then true else true then some (true, AV.bool (bif t == (0 : Int) then bif true then vev56_0 t g n d pa de so we co la inc tk ps (8 : Int) else false else bif bif false then true else t == (1 : Int) then bif true then vev56_0 t g n d pa de so we co la inc tk ps (8 : Int) else false else false), []) else none := by kernel_rfl
  rw [h]
  clear h
  unfold vev64_0
  generalize (t == (1 : Int)) = c0
  generalize (t == (0 : Int)) = c1
  cases c1; cases c0; rfl; rfl; rfl
-- spec true ;; (true, AV.bool (vev64_0 t g n d pa de so we co la inc tk ps), [])
noncomputable def sp64 : List AV → List Blk → Option (Bool × AV × List Blk)
  | [.agg [.int .u8 t, .int .u8 g, .int .i64 n, .str d, .int .i64 pa, .int .i64 de, .bool so, .int .u8 we, .int .u32 co, .int .i64 la, .int .i64 inc, .sl tk [.int .u16, .int .u32] ps]], [] => spW (true) (some ((true, AV.bool (vev64_0 t g n d pa de so we co la inc tk ps), [])))
  | _, _ => none
noncomputable def k64 : Gam := fun f T C => match Nat.beq f 64 with
  | true => (sp64 T C).or (k56 f T C)
  | false => k56 f T C
theorem k64_ok : GamOK Try.prog k64 := by
  intro f T C r outs h
  unfold k64 at h
  cases hf : Nat.beq f 64 with
  | false => rw [hf] at h; exact k56_ok f T C r outs h
  | true =>
    have hf' := Nat.eq_of_beq_eq_true hf
    subst hf'
    rw [hf] at h
    dsimp only at h
    cases hs : sp64 T C with
    | none => rw [hs] at h; exact k56_ok _ T C r outs h
    | some x =>
      rw [hs] at h
      have hx : x = (true, r, outs) := by simpa using h
      subst hx
      unfold sp64 at hs
      split at hs
      · rename_i t g n d pa de so we co la inc tk ps
        obtain ⟨hb, rfl, rfl⟩ := spT_inv hs
        have he := ev64 t g n d pa de so we co la inc tk ps
        obtain ⟨r0, o0, h0, he⟩ := evFin_inv he
        obtain ⟨h1, h2⟩ := fn_ok mixed plain (gk_ok k56_ok 30) Try.func64 (fun c _ => LoopsOK.none (fun _ _ => rfl) c) h0
        exact ⟨h1, h2.fin he⟩
      · cases hs
noncomputable def vev65_0 (t g n : Int) (d : List UInt8) (pa de : Int) (so : Bool) (we co la inc : Int) (tk : Tk) (ps : List (List AV)) : Bool := bif t == (2 : Int) then true else bif t == (1 : Int) then bif false then true else bif true then vev56_0 t g n d pa de so we co la inc tk ps (32 : Int) else false else bif false then true else false
theorem ev65 (t g n : Int) (d : List UInt8) (pa de : Int) (so : Bool) (we co la inc : Int) (tk : Tk) (ps : List (List AV)) : evFin (cfg Try.prog tab 100000 (gk k64 30) noLsp 65 ([] : List Blk).length Try.f65.ntmps) ([] : List Blk).length Try.f65.resultTypes.toList Try.f65 [.agg [.int .u8 t, .int .u8 g, .int .i64 n, .str d, .int .i64 pa, .int .i64 de, .bool so, .int .u8 we, .int .u32 co, .int .i64 la, .int .i64 inc, .sl tk [.int .u16, .int .u32] ps]] [] = bif true then some (true, AV.bool (vev65_0 t g n d pa de so we co la inc tk ps), []) else none := by
  have h : evFin (cfg Try.prog tab 100000 (gk k64 30) noLsp 65 ([] : List Blk).length Try.f65.ntmps) ([] : List Blk).length Try.f65.resultTypes.toList Try.f65 [.agg [.int .u8 t, .int .u8 g, .int .i64 n, .str d, .int .i64 pa, .int .i64 de, .bool so, .int .u8 we, .int .u32 co, .int .i64 la, .int .i64 inc, .sl tk [.int .u16, .int .u32] ps]] [] = bif bif t == (2 : Int) then true else bif t == (1 : Int) then true else true then some (true, AV.bool (bif t == (2 : Int) then true else bif t == (1 : Int) then bif false then true else bif true then vev56_0 t g n d pa de so we co la inc tk ps (32 : Int) else false else bif false then true else false), []) else none := by kernel_rfl
  rw [h]
  clear h
  unfold vev65_0
  generalize (t == (1 : Int)) = c0
  generalize (t == (2 : Int)) = c1
  cases c1; cases c0; rfl; rfl; rfl
-- spec true ;; (true, AV.bool (vev65_0 t g n d pa de so we co la inc tk ps), [])
noncomputable def sp65 : List AV → List Blk → Option (Bool × AV × List Blk)
  | [.agg [.int .u8 t, .int .u8 g, .int .i64 n, .str d, .int .i64 pa, .int .i64 de, .bool so, .int .u8 we, .int .u32 co, .int .i64 la, .int .i64 inc, .sl tk [.int .u16, .int .u32] ps]], [] => spW (true) (some ((true, AV.bool (vev65_0 t g n d pa de so we co la inc tk ps), [])))
  | _, _ => none
noncomputable def k65 : Gam := fun f T C => match Nat.beq f 65 with
  | true => (sp65 T C).or (k64 f T C)
  | false => k64 f T C
theorem k65_ok : GamOK Try.prog k65 := by
  intro f T C r outs h
  unfold k65 at h
  cases hf : Nat.beq f 65 with
  | false => rw [hf] at h; exact k64_ok f T C r outs h
  | true =>
    have hf' := Nat.eq_of_beq_eq_true hf
    subst hf'
    rw [hf] at h
    dsimp only at h
    cases hs : sp65 T C with
    | none => rw [hs] at h; exact k64_ok _ T C r outs h
    | some x =>
      rw [hs] at h
      have hx : x = (true, r, outs) := by simpa using h
      subst hx
      unfold sp65 at hs
      split at hs
      · rename_i t g n d pa de so we co la inc tk ps
        obtain ⟨hb, rfl, rfl⟩ := spT_inv hs
        have he := ev65 t g n d pa de so we co la inc tk ps
        obtain ⟨r0, o0, h0, he⟩ := evFin_inv he
        obtain ⟨h1, h2⟩ := fn_ok mixed plain (gk_ok k64_ok 30) Try.func65 (fun c _ => LoopsOK.none (fun _ _ => rfl) c) h0
        exact ⟨h1, h2.fin he⟩
      · cases hs
noncomputable def vev34n_0 (t g n : Int) (d : List UInt8) (pa de : Int) (so : Bool) (we co la inc : Int) : Bool := bif t == (0 : Int) then n == (0 : Int) else bif t == (1 : Int) then n == (0 : Int) else bif t == (2 : Int) then n == (0 : Int) else bif t == (3 : Int) then n == (0 : Int) else bif t == (9 : Int) then n == (0 : Int) else bif t == (4 : Int) then n != (0 : Int) else bif t == (6 : Int) then n != (0 : Int) else bif t == (7 : Int) then n != (0 : Int) else bif t == (5 : Int) then true else false
theorem ev34n (t g n : Int) (d : List UInt8) (pa de : Int) (so : Bool) (we co la inc : Int) : evFin (cfg Try.prog tab 100000 (gk k65 30) noLsp 34 ([] : List Blk).length Try.f34.ntmps) ([] : List Blk).length Try.f34.resultTypes.toList Try.f34 [.agg [.int .u8 t, .int .u8 g, .int .i64 n, .str d, .int .i64 pa, .int .i64 de, .bool so, .int .u8 we, .int .u32 co, .int .i64 la, .int .i64 inc, .nil]] [] = some (true, AV.bool (vev34n_0 t g n d pa de so we co la inc), []) := by
  have h : evFin (cfg Try.prog tab 100000 (gk k65 30) noLsp 34 ([] : List Blk).length Try.f34.ntmps) ([] : List Blk).length Try.f34.resultTypes.toList Try.f34 [.agg [.int .u8 t, .int .u8 g, .int .i64 n, .str d, .int .i64 pa, .int .i64 de, .bool so, .int .u8 we, .int .u32 co, .int .i64 la, .int .i64 inc, .nil]] [] = bif t == (0 : Int) then bif t == (0 : Int) then some (true, AV.bool (n == (0 : Int)), []) else bif t == (2 : Int) then bif t == (2 : Int) then some (true, AV.bool (n == (0 : Int)), []) else bif t == (4 : Int) then bif t == (4 : Int) then some (true, AV.bool (n != (0 : Int)), []) else bif t == (5 : Int) then some (true, AV.bool true, []) else some (true, AV.bool false, []) else bif t == (6 : Int) then bif t == (6 : Int) then some (true, AV.bool (n != (0 : Int)), []) else bif t == (5 : Int) then some (true, AV.bool true, []) else some (true, AV.bool false, []) else bif t == (7 : Int) then some (true, AV.bool (n != (0 : Int)), []) else bif t == (5 : Int) then some (true, AV.bool true, []) else some (true, AV.bool false, []) else bif t == (3 : Int) then bif t == (3 : Int) then some (true, AV.bool (n == (0 : Int)), []) else bif t == (4 : Int) then bif t == (4 : Int) then some (true, AV.bool (n != (0 : Int)), []) else bif t == (5 : Int) then some (true, AV.bool true, []) else some (true, AV.bool false, []) else bif t == (6 : Int) then bif t == (6 : Int) then some (true, AV.bool (n != (0 : Int)), []) else bif t == (5 : Int) then some (true, AV.bool true, []) else some (true, AV.bool false, []) else bif t == (7 : Int) then some (true, AV.bool (n != (0 : Int)), []) else bif t == (5 : Int) then some (true, AV.bool true, []) else some (true, AV.bool false, []) else bif t == (9 : Int) then some (true, AV.bool (n == (0 : Int)), []) else bif t == (4 : Int) then bif t == (4 : Int) then some (true, AV.bool (n != (0 : Int)), []) else bif t == (5 : Int) then some (true, AV.bool true, []) else some (true, AV.bool false, []) else bif t == (6 : Int) then bif t == (6 : Int) then some (true, AV.bool (n != (0 : Int)), []) else bif t == (5 : Int) then some (true, AV.bool true, []) else some (true, AV.bool false, []) else bif t == (7 : Int) then some (true, AV.bool (n != (0 : Int)), []) else bif t == (5 : Int) then some (true, AV.bool true, []) else some (true, AV.bool false, []) else bif t == (1 : Int) then some (true, AV.bool (n == (0 : Int)), []) else bif t == (2 : Int) then bif t == (2 : Int) then some (true, AV.bool (n == (0 : Int)), []) else bif t == (4 : Int) then bif t == (4 : Int) then some (true, AV.bool (n != (0 : Int)), []) else bif t == (5 : Int) then some (true, AV.bool true, []) else some (true, AV.bool false, []) else bif t == (6 : Int) then bif t == (6 : Int) then some (true, AV.bool (n != (0 : Int)), []) else bif t == (5 : Int) then some (true, AV.bool true, []) else some (true, AV.bool false, []) else bif t == (7 : Int) then some (true, AV.bool (n != (0 : Int)), []) else bif t == (5 : Int) then some (true, AV.bool true, []) else some (true, AV.bool false, []) else bif t == (3 : Int) then bif t == (3 : Int) then some (true, AV.bool (n == (0 : Int)), []) else bif t == (4 : Int) then bif t == (4 : Int) then some (true, AV.bool (n != (0 : Int)), []) else bif t == (5 : Int) then some (true, AV.bool true, []) else some (true, AV.bool false, []) else bif t == (6 : Int) then bif t == (6 : Int) then some (true, AV.bool (n != (0 : Int)), []) else bif t == (5 : Int) then some (true, AV.bool true, []) else some (true, AV.bool false, []) else bif t == (7 : Int) then some (true, AV.bool (n != (0 : Int)), []) else bif t == (5 : Int) then some (true, AV.bool true, []) else some (true, AV.bool false, []) else bif t == (9 : Int) then some (true, AV.bool (n == (0 : Int)), []) else bif t == (4 : Int) then bif t == (4 : Int) then some (true, AV.bool (n != (0 : Int)), []) else bif t == (5 : Int) then some (true, AV.bool true, []) else some (true, AV.bool false, []) else bif t == (6 : Int) then bif t == (6 : Int) then some (true, AV.bool (n != (0 : Int)), []) else bif t == (5 : Int) then some (true, AV.bool true, []) else some (true, AV.bool false, []) else bif t == (7 : Int) then some (true, AV.bool (n != (0 : Int)), []) else bif t == (5 : Int) then some (true, AV.bool true, []) else some (true, AV.bool false, []) := by kernel_rfl
  rw [h]
  clear h
  unfold vev34n_0
  generalize (t == (5 : Int)) = c0
  generalize (t == (0 : Int)) = c1
  generalize (t == (1 : Int)) = c2
  generalize (t == (2 : Int)) = c3
  generalize (t == (3 : Int)) = c4
  generalize (t == (9 : Int)) = c5
  generalize (t == (4 : Int)) = c6
  generalize (t == (6 : Int)) = c7
  generalize (t == (7 : Int)) = c8
  cases c1; cases c2; cases c3; cases c4; cases c5; cases c6; cases c7; cases c8; cases c0; rfl; rfl; rfl; rfl; rfl; rfl; rfl; rfl; rfl; rfl
-- spec true ;; (true, AV.bool (vev34n_0 t g n d pa de so we co la inc), [])
noncomputable def sp34n : List AV → List Blk → Option (Bool × AV × List Blk)
  | [.agg [.int .u8 t, .int .u8 g, .int .i64 n, .str d, .int .i64 pa, .int .i64 de, .bool so, .int .u8 we, .int .u32 co, .int .i64 la, .int .i64 inc, .nil]], [] => spW (true) (some ((true, AV.bool (vev34n_0 t g n d pa de so we co la inc), [])))
  | _, _ => none
noncomputable def k34n : Gam := fun f T C => match Nat.beq f 34 with
  | true => (sp34n T C).or (k65 f T C)
  | false => k65 f T C
theorem k34n_ok : GamOK Try.prog k34n := by
  intro f T C r outs h
  unfold k34n at h
  cases hf : Nat.beq f 34 with
  | false => rw [hf] at h; exact k65_ok f T C r outs h
  | true =>
    have hf' := Nat.eq_of_beq_eq_true hf
    subst hf'
    rw [hf] at h
    dsimp only at h
    cases hs : sp34n T C with
    | none => rw [hs] at h; exact k65_ok _ T C r outs h
    | some x =>
      rw [hs] at h
      have hx : x = (true, r, outs) := by simpa using h
      subst hx
      unfold sp34n at hs
      split at hs
      · rename_i t g n d pa de so we co la inc
        obtain ⟨hb, rfl, rfl⟩ := spT_inv hs
        have he := ev34n t g n d pa de so we co la inc
        obtain ⟨r0, o0, h0, he⟩ := evFin_inv he
        obtain ⟨h1, h2⟩ := fn_ok mixed plain (gk_ok k65_ok 30) Try.func34 (fun c _ => LoopsOK.none (fun _ _ => rfl) c) h0
        exact ⟨h1, h2.fin he⟩
      · cases hs
noncomputable def vev36n_0 (t g n : Int) (d : List UInt8) (pa de : Int) (so : Bool) (we co la inc k : Int) : Bool := bif t == (2 : Int) then k != (5 : Int) else bif t == (3 : Int) then k != (4 : Int) else bif t == (8 : Int) then k != (4 : Int) else bif t == (4 : Int) then bif k.tmod (6 : Int) != (0 : Int) then true else bif vev56n_0 t g n d pa de so we co la inc (1 : Int) then bif false then true else bif true then decide (k > (0 : Int)) else false else bif false then true else false else bif t == (6 : Int) then k != (8 : Int) else bif t == (7 : Int) then decide (k < (8 : Int)) else false
theorem ev36n (t g n : Int) (d : List UInt8) (pa de : Int) (so : Bool) (we co la inc k : Int) : evFin (cfg Try.prog tab 100000 (gk k34n 30) noLsp 36 ([] : List Blk).length Try.f36.ntmps) ([] : List Blk).length Try.f36.resultTypes.toList Try.f36 [.agg [.int .u8 t, .int .u8 g, .int .i64 n, .str d, .int .i64 pa, .int .i64 de, .bool so, .int .u8 we, .int .u32 co, .int .i64 la, .int .i64 inc, .nil], .int .i64 k] [] = bif true then some (true, AV.bool (vev36n_0 t g n d pa de so we co la inc k), []) else none := by
  have h : evFin (cfg Try.prog tab 100000 (gk k34n 30) noLsp 36 ([] : List Blk).length Try.f36.ntmps) ([] : List Blk).length Try.f36.resultTypes.toList Try.f36 [.agg [.int .u8 t, .int .u8 g, .int .i64 n, .str d, .int .i64 pa, .int .i64 de, .bool so, .int .u8 we, .int .u32 co, .int .i64 la, .int .i64 inc, .nil], .int .i64 k] [] = bif t == (2 : Int) then some (true, AV.bool (k != (5 : Int)), []) else bif t == (3 : Int) then bif t == (3 : Int) then some (true, AV.bool (k != (4 : Int)), []) else bif t == (4 : Int) then bif bif k.tmod (6 : Int) != (0 : Int) then true else bif vev56n_0 t g n d pa de so we co la inc (1 : Int) then true else true then some (true, AV.bool (bif k.tmod (6 : Int) != (0 : Int) then true else bif vev56n_0 t g n d pa de so we co la inc (1 : Int) then bif false then true else bif true then decide (k > (0 : Int)) else false else bif false then true else false), []) else none else bif t == (6 : Int) then some (true, AV.bool (k != (8 : Int)), []) else bif t == (7 : Int) then some (true, AV.bool (decide (k < (8 : Int))), []) else some (true, AV.bool false, []) else bif t == (8 : Int) then some (true, AV.bool (k != (4 : Int)), []) else bif t == (4 : Int) then bif bif k.tmod (6 : Int) != (0 : Int) then true else bif vev56n_0 t g n d pa de so we co la inc (1 : Int) then true else true then some (true, AV.bool (bif k.tmod (6 : Int) != (0 : Int) then true else bif vev56n_0 t g n d pa de so we co la inc (1 : Int) then bif false then true else bif true then decide (k > (0 : Int)) else false else bif false then true else false), []) else none else bif t == (6 : Int) then some (true, AV.bool (k != (8 : Int)), []) else bif t == (7 : Int) then some (true, AV.bool (decide (k < (8 : Int))), []) else some (true, AV.bool false, []) := by kernel_rfl
  rw [h]
  clear h
  unfold vev36n_0
  generalize (vev56n_0 t g n d pa de so we co la inc (1 : Int)) = c0
  generalize (k.tmod (6 : Int) != (0 : Int)) = c1
  generalize (t == (7 : Int)) = c2
  generalize (t == (8 : Int)) = c3
  generalize (t == (4 : Int)) = c4
  generalize (t == (2 : Int)) = c5
  generalize (t == (3 : Int)) = c6
  generalize (t == (6 : Int)) = c7
  cases c5; cases c6; cases c3; cases c4; cases c7; cases c2; rfl; rfl; rfl; cases c1; cases c0; rfl; rfl; rfl; rfl; rfl; rfl
-- spec true ;; (true, AV.bool (vev36n_0 t g n d pa de so we co la inc k), [])
noncomputable def sp36n : List AV → List Blk → Option (Bool × AV × List Blk)
  | [.agg [.int .u8 t, .int .u8 g, .int .i64 n, .str d, .int .i64 pa, .int .i64 de, .bool so, .int .u8 we, .int .u32 co, .int .i64 la, .int .i64 inc, .nil], .int .i64 k], [] => spW (true) (some ((true, AV.bool (vev36n_0 t g n d pa de so we co la inc k), [])))
  | _, _ => none
noncomputable def k36n : Gam := fun f T C => match Nat.beq f 36 with
  | true => (sp36n T C).or (k34n f T C)
  | false => k34n f T C
theorem k36n_ok : GamOK Try.prog k36n := by
  intro f T C r outs h
  unfold k36n at h
  cases hf : Nat.beq f 36 with
  | false => rw [hf] at h; exact k34n_ok f T C r outs h
  | true =>
    have hf' := Nat.eq_of_beq_eq_true hf
    subst hf'
    rw [hf] at h
    dsimp only at h
    cases hs : sp36n T C with
    | none => rw [hs] at h; exact k34n_ok _ T C r outs h
    | some x =>
      rw [hs] at h
      have hx : x = (true, r, outs) := by simpa using h
      subst hx
      unfold sp36n at hs
      split at hs
      · rename_i t g n d pa de so we co la inc k
        obtain ⟨hb, rfl, rfl⟩ := spT_inv hs
        have he := ev36n t g n d pa de so we co la inc k
        obtain ⟨r0, o0, h0, he⟩ := evFin_inv he
        obtain ⟨h1, h2⟩ := fn_ok mixed plain (gk_ok k34n_ok 30) Try.func36 (fun c _ => LoopsOK.none (fun _ _ => rfl) c) h0
        exact ⟨h1, h2.fin he⟩
      · cases hs
noncomputable def vev35n_0 (t g n : Int) (d : List UInt8) (pa de : Int) (so : Bool) (we co la inc c : Int) (own : Bool) : Int := bif !own then (0 : Int) else n
theorem ev35n (t g n : Int) (d : List UInt8) (pa de : Int) (so : Bool) (we co la inc c : Int) (own : Bool) : evFin (cfg Try.prog tab 100000 (gk k36n 30) noLsp 35 ([] : List Blk).length Try.f35.ntmps) ([] : List Blk).length Try.f35.resultTypes.toList Try.f35 [.agg [.int .u8 t, .int .u8 g, .int .i64 n, .str d, .int .i64 pa, .int .i64 de, .bool so, .int .u8 we, .int .u32 co, .int .i64 la, .int .i64 inc, .nil], .int .u32 c, .bool own] [] = some (true, AV.agg [AV.int IntKind.u32 c, AV.int IntKind.i64 (vev35n_0 t g n d pa de so we co la inc c own)], []) := by
  have h : evFin (cfg Try.prog tab 100000 (gk k36n 30) noLsp 35 ([] : List Blk).length Try.f35.ntmps) ([] : List Blk).length Try.f35.resultTypes.toList Try.f35 [.agg [.int .u8 t, .int .u8 g, .int .i64 n, .str d, .int .i64 pa, .int .i64 de, .bool so, .int .u8 we, .int .u32 co, .int .i64 la, .int .i64 inc, .nil], .int .u32 c, .bool own] [] = bif !own then some (true, AV.agg [AV.int IntKind.u32 c, AV.int IntKind.i64 (0 : Int)], []) else some (true, AV.agg [AV.int IntKind.u32 c, AV.int IntKind.i64 n], []) := by kernel_rfl
  rw [h]
  clear h
  unfold vev35n_0
  generalize (!own) = c0
  cases c0
  · skip
    rfl
  · skip
    rfl
-- spec true ;; (true, AV.agg [AV.int IntKind.u32 c, AV.int IntKind.i64 (vev35n_0 t g n d pa de so we co la inc c own)], [])
noncomputable def sp35n : List AV → List Blk → Option (Bool × AV × List Blk)
  | [.agg [.int .u8 t, .int .u8 g, .int .i64 n, .str d, .int .i64 pa, .int .i64 de, .bool so, .int .u8 we, .int .u32 co, .int .i64 la, .int .i64 inc, .nil], .int .u32 c, .bool own], [] => spW (true) (some ((true, AV.agg [AV.int IntKind.u32 c, AV.int IntKind.i64 (vev35n_0 t g n d pa de so we co la inc c own)], [])))
  | _, _ => none
noncomputable def k35n : Gam := fun f T C => match Nat.beq f 35 with
  | true => (sp35n T C).or (k36n f T C)
  | false => k36n f T C
theorem k35n_ok : GamOK Try.prog k35n := by
  intro f T C r outs h
  unfold k35n at h
  cases hf : Nat.beq f 35 with
  | false => rw [hf] at h; exact k36n_ok f T C r outs h
  | true =>
    have hf' := Nat.eq_of_beq_eq_true hf
    subst hf'
    rw [hf] at h
    dsimp only at h
    cases hs : sp35n T C with
    | none => rw [hs] at h; exact k36n_ok _ T C r outs h
    | some x =>
      rw [hs] at h
      have hx : x = (true, r, outs) := by simpa using h
      subst hx
      unfold sp35n at hs
      split at hs
      · rename_i t g n d pa de so we co la inc c own
        obtain ⟨hb, rfl, rfl⟩ := spT_inv hs
        have he := ev35n t g n d pa de so we co la inc c own
        obtain ⟨r0, o0, h0, he⟩ := evFin_inv he
        obtain ⟨h1, h2⟩ := fn_ok mixed plain (gk_ok k36n_ok 30) Try.func35 (fun c _ => LoopsOK.none (fun _ _ => rfl) c) h0
        exact ⟨h1, h2.fin he⟩
      · cases hs
noncomputable def vev35_0 (t g n : Int) (d : List UInt8) (pa de : Int) (so : Bool) (we co la inc : Int) (tk : Tk) (ps : List (List AV)) (c : Int) (own : Bool) : Int := bif !own then (0 : Int) else n
theorem ev35 (t g n : Int) (d : List UInt8) (pa de : Int) (so : Bool) (we co la inc : Int) (tk : Tk) (ps : List (List AV)) (c : Int) (own : Bool) : evFin (cfg Try.prog tab 100000 (gk k35n 30) noLsp 35 ([] : List Blk).length Try.f35.ntmps) ([] : List Blk).length Try.f35.resultTypes.toList Try.f35 [.agg [.int .u8 t, .int .u8 g, .int .i64 n, .str d, .int .i64 pa, .int .i64 de, .bool so, .int .u8 we, .int .u32 co, .int .i64 la, .int .i64 inc, .sl tk [.int .u16, .int .u32] ps], .int .u32 c, .bool own] [] = some (true, AV.agg [AV.int IntKind.u32 c, AV.int IntKind.i64 (vev35_0 t g n d pa de so we co la inc tk ps c own)], []) := by
  have h : evFin (cfg Try.prog tab 100000 (gk k35n 30) noLsp 35 ([] : List Blk).length Try.f35.ntmps) ([] : List Blk).length Try.f35.resultTypes.toList Try.f35 [.agg [.int .u8 t, .int .u8 g, .int .i64 n, .str d, .int .i64 pa, .int .i64 de, .bool so, .int .u8 we, .int .u32 co, .int .i64 la, .int .i64 inc, .sl tk [.int .u16, .int .u32] ps], .int .u32 c, .bool own] [] = bif !own then some (true, AV.agg [AV.int IntKind.u32 c, AV.int IntKind.i64 (0 : Int)], []) else some (true, AV.agg [AV.int IntKind.u32 c, AV.int IntKind.i64 n], []) := by kernel_rfl
  rw [h]
  clear h
  unfold vev35_0
  generalize (!own) = c0
  cases c0
  · skip
    rfl
  · skip
    rfl
-- spec true ;; (true, AV.agg [AV.int IntKind.u32 c, AV.int IntKind.i64 (vev35_0 t g n d pa de so we co la inc tk ps c own)], [])
noncomputable def sp35 : List AV → List Blk → Option (Bool × AV × List Blk)
  | [.agg [.int .u8 t, .int .u8 g, .int .i64 n, .str d, .int .i64 pa, .int .i64 de, .bool so, .int .u8 we, .int .u32 co, .int .i64 la, .int .i64 inc, .sl tk [.int .u16, .int .u32] ps], .int .u32 c, .bool own], [] => spW (true) (some ((true, AV.agg [AV.int IntKind.u32 c, AV.int IntKind.i64 (vev35_0 t g n d pa de so we co la inc tk ps c own)], [])))
  | _, _ => none
noncomputable def k35 : Gam := fun f T C => match Nat.beq f 35 with
  | true => (sp35 T C).or (k35n f T C)
  | false => k35n f T C
theorem k35_ok : GamOK Try.prog k35 := by
  intro f T C r outs h
  unfold k35 at h
  cases hf : Nat.beq f 35 with
  | false => rw [hf] at h; exact k35n_ok f T C r outs h
  | true =>
    have hf' := Nat.eq_of_beq_eq_true hf
    subst hf'
    rw [hf] at h
    dsimp only at h
    cases hs : sp35 T C with
    | none => rw [hs] at h; exact k35n_ok _ T C r outs h
    | some x =>
      rw [hs] at h
      have hx : x = (true, r, outs) := by simpa using h
      subst hx
      unfold sp35 at hs
      split at hs
      · rename_i t g n d pa de so we co la inc tk ps c own
        obtain ⟨hb, rfl, rfl⟩ := spT_inv hs
        have he := ev35 t g n d pa de so we co la inc tk ps c own
        obtain ⟨r0, o0, h0, he⟩ := evFin_inv he
        obtain ⟨h1, h2⟩ := fn_ok mixed plain (gk_ok k35n_ok 30) Try.func35 (fun c _ => LoopsOK.none (fun _ _ => rfl) c) h0
        exact ⟨h1, h2.fin he⟩
      · cases hs
noncomputable def vev57_0 (t g n : Int) (d : List UInt8) (pa de : Int) (so : Bool) (we co la inc : Int) (ps : List (List AV)) (s : List UInt8) : Bool := bits BinOp.and IntKind.u8 (↑(s.getD (Int.toNat (0 : Int)) (0 : UInt8)).toNat : Int) (128 : Int) != (0 : Int)
noncomputable def vev57_1 (t g n : Int) (d : List UInt8) (pa de : Int) (so : Bool) (we co la inc : Int) (ps : List (List AV)) (s : List UInt8) : Int := (↑(s.getD (Int.toNat (4 : Int)) (0 : UInt8)).toNat : Int)
noncomputable def vev57_2 (t g n : Int) (d : List UInt8) (pa de : Int) (so : Bool) (we co la inc : Int) (ps : List (List AV)) (s : List UInt8) : Bool := bif vev59_1 s then bif decide ((0 : Int) ≤ (0 : Int)) && decide ((0 : Int) < (↑s.length : Int)) then bif decide ((0 : Int) ≤ (4 : Int)) && decide ((4 : Int) < (↑s.length : Int)) then true else false else false else false
theorem ev57 (t g n : Int) (d : List UInt8) (pa de : Int) (so : Bool) (we co la inc : Int) (ps : List (List AV)) (s : List UInt8) : evFin (cfg Try.prog tab 100000 (gk k35 30) noLsp 57 ([.var [.int .u8 t, .int .u8 g, .int .i64 n, .str d, .int .i64 pa, .int .i64 de, .bool so, .int .u8 we, .int .u32 co, .int .i64 la, .int .i64 inc, .rf 1 [.int .u16, .int .u32]], .row [.int .u16, .int .u32] ps] : List Blk).length Try.f57.ntmps) ([.var [.int .u8 t, .int .u8 g, .int .i64 n, .str d, .int .i64 pa, .int .i64 de, .bool so, .int .u8 we, .int .u32 co, .int .i64 la, .int .i64 inc, .rf 1 [.int .u16, .int .u32]], .row [.int .u16, .int .u32] ps] : List Blk).length Try.f57.resultTypes.toList Try.f57 [.hp 0 0, .str s] [.var [.int .u8 t, .int .u8 g, .int .i64 n, .str d, .int .i64 pa, .int .i64 de, .bool so, .int .u8 we, .int .u32 co, .int .i64 la, .int .i64 inc, .rf 1 [.int .u16, .int .u32]], .row [.int .u16, .int .u32] ps] = bif vev57_2 t g n d pa de so we co la inc ps s then some (true, AV.tup [], [Blk.var [AV.int IntKind.u8 t, AV.int IntKind.u8 g, AV.int IntKind.i64 n, AV.str d, AV.int IntKind.i64 pa, AV.int IntKind.i64 (vev59_0 s), AV.bool (vev57_0 t g n d pa de so we co la inc ps s), AV.int IntKind.u8 (vev57_1 t g n d pa de so we co la inc ps s), AV.int IntKind.u32 co, AV.int IntKind.i64 la, AV.int IntKind.i64 inc, AV.rf (nat_lit 1) [Kd.int IntKind.u16, Kd.int IntKind.u32]], Blk.row [Kd.int IntKind.u16, Kd.int IntKind.u32] ps]) else none := by
  have h : evFin (cfg Try.prog tab 100000 (gk k35 30) noLsp 57 ([.var [.int .u8 t, .int .u8 g, .int .i64 n, .str d, .int .i64 pa, .int .i64 de, .bool so, .int .u8 we, .int .u32 co, .int .i64 la, .int .i64 inc, .rf 1 [.int .u16, .int .u32]], .row [.int .u16, .int .u32] ps] : List Blk).length Try.f57.ntmps) ([.var [.int .u8 t, .int .u8 g, .int .i64 n, .str d, .int .i64 pa, .int .i64 de, .bool so, .int .u8 we, .int .u32 co, .int .i64 la, .int .i64 inc, .rf 1 [.int .u16, .int .u32]], .row [.int .u16, .int .u32] ps] : List Blk).length Try.f57.resultTypes.toList Try.f57 [.hp 0 0, .str s] [.var [.int .u8 t, .int .u8 g, .int .i64 n, .str d, .int .i64 pa, .int .i64 de, .bool so, .int .u8 we, .int .u32 co, .int .i64 la, .int .i64 inc, .rf 1 [.int .u16, .int .u32]], .row [.int .u16, .int .u32] ps] = bif vev59_1 s then bif decide ((0 : Int) ≤ (0 : Int)) && decide ((0 : Int) < (↑s.length : Int)) then bif decide ((0 : Int) ≤ (4 : Int)) && decide ((4 : Int) < (↑s.length : Int)) then some (true, AV.tup [], [Blk.var [AV.int IntKind.u8 t, AV.int IntKind.u8 g, AV.int IntKind.i64 n, AV.str d, AV.int IntKind.i64 pa, AV.int IntKind.i64 (vev59_0 s), AV.bool (bits BinOp.and IntKind.u8 (↑(s.getD (Int.toNat (0 : Int)) (0 : UInt8)).toNat : Int) (128 : Int) != (0 : Int)), AV.int IntKind.u8 (↑(s.getD (Int.toNat (4 : Int)) (0 : UInt8)).toNat : Int), AV.int IntKind.u32 co, AV.int IntKind.i64 la, AV.int IntKind.i64 inc, AV.rf (nat_lit 1) [Kd.int IntKind.u16, Kd.int IntKind.u32]], Blk.row [Kd.int IntKind.u16, Kd.int IntKind.u32] ps]) else none else none else none := by kernel_rfl
  rw [h]
  clear h
  unfold vev57_0 vev57_1 vev57_2
  generalize (decide ((0 : Int) ≤ (4 : Int)) && decide ((4 : Int) < (↑s.length : Int))) = c0
  generalize (decide ((0 : Int) ≤ (0 : Int)) && decide ((0 : Int) < (↑s.length : Int))) = c1
  generalize (vev59_1 s) = c2
  cases c2; rfl; cases c1; rfl; cases c0; rfl; rfl
-- spec vev57_2 t g n d pa de so we co la inc ps s ;; (true, AV.tup [], [Blk.var [AV.int IntKind.u8 t, AV.int IntKind.u8 g, AV.int IntKind.i64 n, AV.str d, AV.int IntKind.i64 pa, AV.int IntKind.i64 (vev59_0 s), AV.bool (vev57_0 t g n d pa de so we co la inc ps s), AV.int IntKind.u8 (vev57_1 t g n d pa de so we co la inc ps s), AV.int IntKind.u32 co, AV.int IntKind.i64 la, AV.int IntKind.i64 inc, AV.rf (nat_lit 1) [Kd.int IntKind.u16, Kd.int IntKind.u32]], Blk.row [Kd.int IntKind.u16, Kd.int IntKind.u32] ps])
noncomputable def sp57 : List AV → List Blk → Option (Bool × AV × List Blk)
  | [.hp 0 0, .str s], [.var [.int .u8 t, .int .u8 g, .int .i64 n, .str d, .int .i64 pa, .int .i64 de, .bool so, .int .u8 we, .int .u32 co, .int .i64 la, .int .i64 inc, .rf 1 [.int .u16, .int .u32]], .row [.int .u16, .int .u32] ps] => spW (vev57_2 t g n d pa de so we co la inc ps s) (some ((true, AV.tup [], [Blk.var [AV.int IntKind.u8 t, AV.int IntKind.u8 g, AV.int IntKind.i64 n, AV.str d, AV.int IntKind.i64 pa, AV.int IntKind.i64 (vev59_0 s), AV.bool (vev57_0 t g n d pa de so we co la inc ps s), AV.int IntKind.u8 (vev57_1 t g n d pa de so we co la inc ps s), AV.int IntKind.u32 co, AV.int IntKind.i64 la, AV.int IntKind.i64 inc, AV.rf (nat_lit 1) [Kd.int IntKind.u16, Kd.int IntKind.u32]], Blk.row [Kd.int IntKind.u16, Kd.int IntKind.u32] ps])))
  | _, _ => none
noncomputable def k57 : Gam := fun f T C => match Nat.beq f 57 with
  | true => (sp57 T C).or (k35 f T C)
  | false => k35 f T C
theorem k57_ok : GamOK Try.prog k57 := by
  intro f T C r outs h
  unfold k57 at h
  cases hf : Nat.beq f 57 with
  | false => rw [hf] at h; exact k35_ok f T C r outs h
  | true =>
    have hf' := Nat.eq_of_beq_eq_true hf
    subst hf'
    rw [hf] at h
    dsimp only at h
    cases hs : sp57 T C with
    | none => rw [hs] at h; exact k35_ok _ T C r outs h
    | some x =>
      rw [hs] at h
      have hx : x = (true, r, outs) := by simpa using h
      subst hx
      unfold sp57 at hs
      split at hs
      · rename_i s t g n d pa de so we co la inc ps
        obtain ⟨hb, rfl, rfl⟩ := spT_inv hs
        have he := ev57 t g n d pa de so we co la inc ps s
        rw [hb, cond_true] at he
        obtain ⟨r0, o0, h0, he⟩ := evFin_inv he
        obtain ⟨h1, h2⟩ := fn_ok mixed plain (gk_ok k35_ok 30) Try.func57 (fun c _ => LoopsOK.none (fun _ _ => rfl) c) h0
        exact ⟨h1, h2.fin he⟩
      · cases hs
noncomputable def rev71_0 (t g n : Int) (d : List UInt8) (pa de : Int) (so : Bool) (we co la inc : Int) (ps : List (List AV)) (s : List UInt8) : Int := IntKind.i64.wrap (↑(s.getD (Int.toNat (0 : Int)) (0 : UInt8)).toNat : Int)
noncomputable def rev71_1 (t g n : Int) (d : List UInt8) (pa de : Int) (so : Bool) (we co la inc : Int) (ps : List (List AV)) (s : List UInt8) : Int := IntKind.i64.wrap (IntKind.i64.wrap ((↑s.length : Int) - (1 : Int)) - rev71_0 t g n d pa de so we co la inc ps s)
noncomputable def rev71_2 (t g n : Int) (d : List UInt8) (pa de : Int) (so : Bool) (we co la inc : Int) (ps : List (List AV)) (s : List UInt8) : Int := IntKind.i64.wrap ((1 : Int) + rev71_1 t g n d pa de so we co la inc ps s)
noncomputable def vev71_0 (t g n : Int) (d : List UInt8) (pa de : Int) (so : Bool) (we co la inc : Int) (ps : List (List AV)) (s : List UInt8) : List UInt8 := bif !vev64_0 t g n d pa de so we co la inc Tk.lent ps then s else bif s == (ByteArray.mk #[]).data.toList then (ByteArray.mk #[]).data.toList else bif decide (rev71_1 t g n d pa de so we co la inc ps s < (0 : Int)) then (ByteArray.mk #[]).data.toList else List.drop (Int.toNat (1 : Int)) (List.take (rev71_2 t g n d pa de so we co la inc ps s).toNat s)
noncomputable def vev71_1 (t g n : Int) (d : List UInt8) (pa de : Int) (so : Bool) (we co la inc : Int) (ps : List (List AV)) (s : List UInt8) : Int := bif !vev64_0 t g n d pa de so we co la inc Tk.lent ps then (0 : Int) else bif s == (ByteArray.mk #[]).data.toList then (6 : Int) else bif decide (rev71_1 t g n d pa de so we co la inc ps s < (0 : Int)) then (1 : Int) else (0 : Int)
noncomputable def vev71_2 (t g n : Int) (d : List UInt8) (pa de : Int) (so : Bool) (we co la inc : Int) (ps : List (List AV)) (s : List UInt8) : Int := bif !vev64_0 t g n d pa de so we co la inc Tk.lent ps then pa else bif s == (ByteArray.mk #[]).data.toList then pa else rev71_0 t g n d pa de so we co la inc ps s
noncomputable def vev71_3 (t g n : Int) (d : List UInt8) (pa de : Int) (so : Bool) (we co la inc : Int) (ps : List (List AV)) (s : List UInt8) : Bool := bif !vev64_0 t g n d pa de so we co la inc Tk.lent ps then true else bif s == (ByteArray.mk #[]).data.toList then true else bif decide ((0 : Int) ≤ (0 : Int)) && decide ((0 : Int) < (↑s.length : Int)) then bif decide (rev71_1 t g n d pa de so we co la inc ps s < (0 : Int)) then true else bif bnd (1 : Int) (rev71_2 t g n d pa de so we co la inc ps s) (↑s.length : Int) then true else false else false
theorem ev71 (t g n : Int) (d : List UInt8) (pa de : Int) (so : Bool) (we co la inc : Int) (ps : List (List AV)) (s : List UInt8) : evFin (cfg Try.prog tab 100000 (gk k57 30) noLsp 71 ([.var [.int .u8 t, .int .u8 g, .int .i64 n, .str d, .int .i64 pa, .int .i64 de, .bool so, .int .u8 we, .int .u32 co, .int .i64 la, .int .i64 inc, .rf 1 [.int .u16, .int .u32]], .row [.int .u16, .int .u32] ps] : List Blk).length Try.f71.ntmps) ([.var [.int .u8 t, .int .u8 g, .int .i64 n, .str d, .int .i64 pa, .int .i64 de, .bool so, .int .u8 we, .int .u32 co, .int .i64 la, .int .i64 inc, .rf 1 [.int .u16, .int .u32]], .row [.int .u16, .int .u32] ps] : List Blk).length Try.f71.resultTypes.toList Try.f71 [.hp 0 0, .str s] [.var [.int .u8 t, .int .u8 g, .int .i64 n, .str d, .int .i64 pa, .int .i64 de, .bool so, .int .u8 we, .int .u32 co, .int .i64 la, .int .i64 inc, .rf 1 [.int .u16, .int .u32]], .row [.int .u16, .int .u32] ps] = bif vev71_3 t g n d pa de so we co la inc ps s then some (true, AV.tup [AV.str (vev71_0 t g n d pa de so we co la inc ps s), AV.int IntKind.u32 (vev71_1 t g n d pa de so we co la inc ps s)], [Blk.var [AV.int IntKind.u8 t, AV.int IntKind.u8 g, AV.int IntKind.i64 n, AV.str d, AV.int IntKind.i64 (vev71_2 t g n d pa de so we co la inc ps s), AV.int IntKind.i64 de, AV.bool so, AV.int IntKind.u8 we, AV.int IntKind.u32 co, AV.int IntKind.i64 la, AV.int IntKind.i64 inc, AV.rf (nat_lit 1) [Kd.int IntKind.u16, Kd.int IntKind.u32]], Blk.row [Kd.int IntKind.u16, Kd.int IntKind.u32] ps]) else none := by
  have h : evFin (cfg Try.prog tab 100000 (gk k57 30) noLsp 71 ([.var [.int .u8 t, .int .u8 g, .int .i64 n, .str d, .int .i64 pa, .int .i64 de, .bool so, .int .u8 we, .int .u32 co, .int .i64 la, .int .i64 inc, .rf 1 [.int .u16, .int .u32]], .row [.int .u16, .int .u32] ps] : List Blk).length Try.f71.ntmps) ([.var [.int .u8 t, .int .u8 g, .int .i64 n, .str d, .int .i64 pa, .int .i64 de, .bool so, .int .u8 we, .int .u32 co, .int .i64 la, .int .i64 inc, .rf 1 [.int .u16, .int .u32]], .row [.int .u16, .int .u32] ps] : List Blk).length Try.f71.resultTypes.toList Try.f71 [.hp 0 0, .str s] [.var [.int .u8 t, .int .u8 g, .int .i64 n, .str d, .int .i64 pa, .int .i64 de, .bool so, .int .u8 we, .int .u32 co, .int .i64 la, .int .i64 inc, .rf 1 [.int .u16, .int .u32]], .row [.int .u16, .int .u32] ps] = bif !vev64_0 t g n d pa de so we co la inc Tk.lent ps then some (true, AV.tup [AV.str s, AV.int IntKind.u32 (0 : Int)], [Blk.var [AV.int IntKind.u8 t, AV.int IntKind.u8 g, AV.int IntKind.i64 n, AV.str d, AV.int IntKind.i64 pa, AV.int IntKind.i64 de, AV.bool so, AV.int IntKind.u8 we, AV.int IntKind.u32 co, AV.int IntKind.i64 la, AV.int IntKind.i64 inc, AV.rf (nat_lit 1) [Kd.int IntKind.u16, Kd.int IntKind.u32]], Blk.row [Kd.int IntKind.u16, Kd.int IntKind.u32] ps]) else bif s == (ByteArray.mk #[]).data.toList then some (true, AV.tup [AV.str (ByteArray.mk #[]).data.toList, AV.int IntKind.u32 (6 : Int)], [Blk.var [AV.int IntKind.u8 t, AV.int IntKind.u8 g, AV.int IntKind.i64 n, AV.str d, AV.int IntKind.i64 pa, AV.int IntKind.i64 de, AV.bool so, AV.int IntKind.u8 we, AV.int IntKind.u32 co, AV.int IntKind.i64 la, AV.int IntKind.i64 inc, AV.rf (nat_lit 1) [Kd.int IntKind.u16, Kd.int IntKind.u32]], Blk.row [Kd.int IntKind.u16, Kd.int IntKind.u32] ps]) else bif decide ((0 : Int) ≤ (0 : Int)) && decide ((0 : Int) < (↑s.length : Int)) then bif decide (rev71_1 t g n d pa de so we co la inc ps s < (0 : Int)) then some (true, AV.tup [AV.str (ByteArray.mk #[]).data.toList, AV.int IntKind.u32 (1 : Int)], [Blk.var [AV.int IntKind.u8 t, AV.int IntKind.u8 g, AV.int IntKind.i64 n, AV.str d, AV.int IntKind.i64 (rev71_0 t g n d pa de so we co la inc ps s), AV.int IntKind.i64 de, AV.bool so, AV.int IntKind.u8 we, AV.int IntKind.u32 co, AV.int IntKind.i64 la, AV.int IntKind.i64 inc, AV.rf (nat_lit 1) [Kd.int IntKind.u16, Kd.int IntKind.u32]], Blk.row [Kd.int IntKind.u16, Kd.int IntKind.u32] ps]) else bif bnd (1 : Int) (rev71_2 t g n d pa de so we co la inc ps s) (↑s.length : Int) then some (true, AV.tup [AV.str (List.drop (Int.toNat (1 : Int)) (List.take (rev71_2 t g n d pa de so we co la inc ps s).toNat s)), AV.int IntKind.u32 (0 : Int)], [Blk.var [AV.int IntKind.u8 t, AV.int IntKind.u8 g, AV.int IntKind.i64 n, AV.str d, AV.int IntKind.i64 (rev71_0 t g n d pa de so we co la inc ps s), AV.int IntKind.i64 de, AV.bool so, AV.int IntKind.u8 we, AV.int IntKind.u32 co, AV.int IntKind.i64 la, AV.int IntKind.i64 inc, AV.rf (nat_lit 1) [Kd.int IntKind.u16, Kd.int IntKind.u32]], Blk.row [Kd.int IntKind.u16, Kd.int IntKind.u32] ps]) else none else none := by kernel_rfl
  rw [h]
  clear h
  unfold vev71_0 vev71_1 vev71_2 vev71_3
  generalize (decide ((0 : Int) ≤ (0 : Int)) && decide ((0 : Int) < (↑s.length : Int))) = c0
  generalize (decide (rev71_1 t g n d pa de so we co la inc ps s < (0 : Int))) = c1
  generalize (bnd (1 : Int) (rev71_2 t g n d pa de so we co la inc ps s) (↑s.length : Int)) = c2
  generalize (s == (ByteArray.mk #[]).data.toList) = c3
  generalize (!vev64_0 t g n d pa de so we co la inc Tk.lent ps) = c4
  cases c4; cases c3; cases c0; rfl; cases c1; cases c2; rfl; rfl; rfl; rfl; rfl
-- spec vev71_3 t g n d pa de so we co la inc ps s ;; (true, AV.tup [AV.str (vev71_0 t g n d pa de so we co la inc ps s), AV.int IntKind.u32 (vev71_1 t g n d pa de so we co la inc ps s)], [Blk.var [AV.int IntKind.u8 t, AV.int IntKind.u8 g, AV.int IntKind.i64 n, AV.str d, AV.int IntKind.i64 (vev71_2 t g n d pa de so we co la inc ps s), AV.int IntKind.i64 de, AV.bool so, AV.int IntKind.u8 we, AV.int IntKind.u32 co, AV.int IntKind.i64 la, AV.int IntKind.i64 inc, AV.rf (nat_lit 1) [Kd.int IntKind.u16, Kd.int IntKind.u32]], Blk.row [Kd.int IntKind.u16, Kd.int IntKind.u32] ps])
noncomputable def sp71 : List AV → List Blk → Option (Bool × AV × List Blk)
  | [.hp 0 0, .str s], [.var [.int .u8 t, .int .u8 g, .int .i64 n, .str d, .int .i64 pa, .int .i64 de, .bool so, .int .u8 we, .int .u32 co, .int .i64 la, .int .i64 inc, .rf 1 [.int .u16, .int .u32]], .row [.int .u16, .int .u32] ps] => spW (vev71_3 t g n d pa de so we co la inc ps s) (some ((true, AV.tup [AV.str (vev71_0 t g n d pa de so we co la inc ps s), AV.int IntKind.u32 (vev71_1 t g n d pa de so we co la inc ps s)], [Blk.var [AV.int IntKind.u8 t, AV.int IntKind.u8 g, AV.int IntKind.i64 n, AV.str d, AV.int IntKind.i64 (vev71_2 t g n d pa de so we co la inc ps s), AV.int IntKind.i64 de, AV.bool so, AV.int IntKind.u8 we, AV.int IntKind.u32 co, AV.int IntKind.i64 la, AV.int IntKind.i64 inc, AV.rf (nat_lit 1) [Kd.int IntKind.u16, Kd.int IntKind.u32]], Blk.row [Kd.int IntKind.u16, Kd.int IntKind.u32] ps])))
  | _, _ => none
noncomputable def k71 : Gam := fun f T C => match Nat.beq f 71 with
  | true => (sp71 T C).or (k57 f T C)
  | false => k57 f T C
theorem k71_ok : GamOK Try.prog k71 := by
  intro f T C r outs h
  unfold k71 at h
  cases hf : Nat.beq f 71 with
  | false => rw [hf] at h; exact k57_ok f T C r outs h
  | true =>
    have hf' := Nat.eq_of_beq_eq_true hf
    subst hf'
    rw [hf] at h
    dsimp only at h
    cases hs : sp71 T C with
    | none => rw [hs] at h; exact k57_ok _ T C r outs h
    | some x =>
      rw [hs] at h
      have hx : x = (true, r, outs) := by simpa using h
      subst hx
      unfold sp71 at hs
      split at hs
      · rename_i s t g n d pa de so we co la inc ps
        obtain ⟨hb, rfl, rfl⟩ := spT_inv hs
        have he := ev71 t g n d pa de so we co la inc ps s
        rw [hb, cond_true] at he
        obtain ⟨r0, o0, h0, he⟩ := evFin_inv he
        obtain ⟨h1, h2⟩ := fn_ok mixed plain (gk_ok k57_ok 30) Try.func71 (fun c _ => LoopsOK.none (fun _ _ => rfl) c) h0
        exact ⟨h1, h2.fin he⟩
      · cases hs
noncomputable def rev60_0 (t g n : Int) (d : List UInt8) (pa de : Int) (so : Bool) (we co la inc : Int) (ps : List (List AV)) (s : List UInt8) : Int := vev71_1 t g n d pa de so we co la inc ps s
noncomputable def rev60_1 (t g n : Int) (d : List UInt8) (pa de : Int) (so : Bool) (we co la inc : Int) (ps : List (List AV)) (s : List UInt8) : Int := vev71_2 t g n d pa de so we co la inc ps s
noncomputable def rev60_2 (t g n : Int) (d : List UInt8) (pa de : Int) (so : Bool) (we co la inc : Int) (ps : List (List AV)) (s : List UInt8) : List UInt8 := vev71_0 t g n d pa de so we co la inc ps s
noncomputable def rev60_3 (t g n : Int) (d : List UInt8) (pa de : Int) (so : Bool) (we co la inc : Int) (ps : List (List AV)) (s : List UInt8) : Int := (↑(rev60_2 t g n d pa de so we co la inc ps s).length : Int)
noncomputable def vev60_0 (t g n : Int) (d : List UInt8) (pa de : Int) (so : Bool) (we co la inc : Int) (ps : List (List AV)) (s : List UInt8) : Int := bif rev60_0 t g n d pa de so we co la inc ps s != (0 : Int) then rev60_0 t g n d pa de so we co la inc ps s else bif bif t == (1 : Int) then vev65_0 t g n d (rev60_1 t g n d pa de so we co la inc ps s) de so we co la inc Tk.lent ps else false then bif decide (rev60_3 t g n d pa de so we co la inc ps s < (5 : Int)) then (6 : Int) else (0 : Int) else (0 : Int)
noncomputable def vev60_1 (t g n : Int) (d : List UInt8) (pa de : Int) (so : Bool) (we co la inc : Int) (ps : List (List AV)) (s : List UInt8) : List UInt8 := bif rev60_0 t g n d pa de so we co la inc ps s != (0 : Int) then d else bif bif t == (1 : Int) then vev65_0 t g n d (rev60_1 t g n d pa de so we co la inc ps s) de so we co la inc Tk.lent ps else false then bif decide (rev60_3 t g n d pa de so we co la inc ps s < (5 : Int)) then d else List.drop (Int.toNat (5 : Int)) (rev60_2 t g n d pa de so we co la inc ps s) else rev60_2 t g n d pa de so we co la inc ps s
noncomputable def vev60_2 (t g n : Int) (d : List UInt8) (pa de : Int) (so : Bool) (we co la inc : Int) (ps : List (List AV)) (s : List UInt8) : Int := rev60_1 t g n d pa de so we co la inc ps s
noncomputable def vev60_3 (t g n : Int) (d : List UInt8) (pa de : Int) (so : Bool) (we co la inc : Int) (ps : List (List AV)) (s : List UInt8) : Int := bif rev60_0 t g n d pa de so we co la inc ps s != (0 : Int) then de else bif bif t == (1 : Int) then vev65_0 t g n d (rev60_1 t g n d pa de so we co la inc ps s) de so we co la inc Tk.lent ps else false then bif decide (rev60_3 t g n d pa de so we co la inc ps s < (5 : Int)) then de else vev59_0 (rev60_2 t g n d pa de so we co la inc ps s) else de
noncomputable def vev60_4 (t g n : Int) (d : List UInt8) (pa de : Int) (so : Bool) (we co la inc : Int) (ps : List (List AV)) (s : List UInt8) : Bool := bif rev60_0 t g n d pa de so we co la inc ps s != (0 : Int) then so else bif bif t == (1 : Int) then vev65_0 t g n d (rev60_1 t g n d pa de so we co la inc ps s) de so we co la inc Tk.lent ps else false then bif decide (rev60_3 t g n d pa de so we co la inc ps s < (5 : Int)) then so else vev57_0 t g n d (rev60_1 t g n d pa de so we co la inc ps s) de so we co la inc ps (rev60_2 t g n d pa de so we co la inc ps s) else so
noncomputable def vev60_5 (t g n : Int) (d : List UInt8) (pa de : Int) (so : Bool) (we co la inc : Int) (ps : List (List AV)) (s : List UInt8) : Int := bif rev60_0 t g n d pa de so we co la inc ps s != (0 : Int) then we else bif bif t == (1 : Int) then vev65_0 t g n d (rev60_1 t g n d pa de so we co la inc ps s) de so we co la inc Tk.lent ps else false then bif decide (rev60_3 t g n d pa de so we co la inc ps s < (5 : Int)) then we else vev57_1 t g n d (rev60_1 t g n d pa de so we co la inc ps s) de so we co la inc ps (rev60_2 t g n d pa de so we co la inc ps s) else we
noncomputable def vev60_6 (t g n : Int) (d : List UInt8) (pa de : Int) (so : Bool) (we co la inc : Int) (ps : List (List AV)) (s : List UInt8) : Bool := bif vev71_3 t g n d pa de so we co la inc ps s then bif rev60_0 t g n d pa de so we co la inc ps s != (0 : Int) then true else bif bif t == (1 : Int) then vev65_0 t g n d (rev60_1 t g n d pa de so we co la inc ps s) de so we co la inc Tk.lent ps else false then bif decide (rev60_3 t g n d pa de so we co la inc ps s < (5 : Int)) then true else bif vev57_2 t g n d (rev60_1 t g n d pa de so we co la inc ps s) de so we co la inc ps (rev60_2 t g n d pa de so we co la inc ps s) then bif bnd (5 : Int) (rev60_3 t g n d pa de so we co la inc ps s) (rev60_3 t g n d pa de so we co la inc ps s) then true else false else false else true else false
theorem ev60 (t g n : Int) (d : List UInt8) (pa de : Int) (so : Bool) (we co la inc : Int) (ps : List (List AV)) (s : List UInt8) : evFin (cfg Try.prog tab 100000 (gk k71 30) noLsp 60 ([.var [.int .u8 t, .int .u8 g, .int .i64 n, .str d, .int .i64 pa, .int .i64 de, .bool so, .int .u8 we, .int .u32 co, .int .i64 la, .int .i64 inc, .rf 1 [.int .u16, .int .u32]], .row [.int .u16, .int .u32] ps] : List Blk).length Try.f60.ntmps) ([.var [.int .u8 t, .int .u8 g, .int .i64 n, .str d, .int .i64 pa, .int .i64 de, .bool so, .int .u8 we, .int .u32 co, .int .i64 la, .int .i64 inc, .rf 1 [.int .u16, .int .u32]], .row [.int .u16, .int .u32] ps] : List Blk).length Try.f60.resultTypes.toList Try.f60 [.hp 0 0, .str s] [.var [.int .u8 t, .int .u8 g, .int .i64 n, .str d, .int .i64 pa, .int .i64 de, .bool so, .int .u8 we, .int .u32 co, .int .i64 la, .int .i64 inc, .rf 1 [.int .u16, .int .u32]], .row [.int .u16, .int .u32] ps] = bif vev60_6 t g n d pa de so we co la inc ps s then some (true, AV.int IntKind.u32 (vev60_0 t g n d pa de so we co la inc ps s), [Blk.var [AV.int IntKind.u8 t, AV.int IntKind.u8 g, AV.int IntKind.i64 n, AV.str (vev60_1 t g n d pa de so we co la inc ps s), AV.int IntKind.i64 (vev60_2 t g n d pa de so we co la inc ps s), AV.int IntKind.i64 (vev60_3 t g n d pa de so we co la inc ps s), AV.bool (vev60_4 t g n d pa de so we co la inc ps s), AV.int IntKind.u8 (vev60_5 t g n d pa de so we co la inc ps s), AV.int IntKind.u32 co, AV.int IntKind.i64 la, AV.int IntKind.i64 inc, AV.rf (nat_lit 1) [Kd.int IntKind.u16, Kd.int IntKind.u32]], Blk.row [Kd.int IntKind.u16, Kd.int IntKind.u32] ps]) else none := by
  have h : evFin (cfg Try.prog tab 100000 (gk k71 30) noLsp 60 ([.var [.int .u8 t, .int .u8 g, .int .i64 n, .str d, .int .i64 pa, .int .i64 de, .bool so, .int .u8 we, .int .u32 co, .int .i64 la, .int .i64 inc, .rf 1 [.int .u16, .int .u32]], .row [.int .u16, .int .u32] ps] : List Blk).length Try.f60.ntmps) ([.var [.int .u8 t, .int .u8 g, .int .i64 n, .str d, .int .i64 pa, .int .i64 de, .bool so, .int .u8 we, .int .u32 co, .int .i64 la, .int .i64 inc, .rf 1 [.int .u16, .int .u32]], .row [.int .u16, .int .u32] ps] : List Blk).length Try.f60.resultTypes.toList Try.f60 [.hp 0 0, .str s] [.var [.int .u8 t, .int .u8 g, .int .i64 n, .str d, .int .i64 pa, .int .i64 de, .bool so, .int .u8 we, .int .u32 co, .int .i64 la, .int .i64 inc, .rf 1 [.int .u16, .int .u32]], .row [.int .u16, .int .u32] ps] = bif vev71_3 t g n d pa de so we co la inc ps s then bif rev60_0 t g n d pa de so we co la inc ps s != (0 : Int) then some (true, AV.int IntKind.u32 (rev60_0 t g n d pa de so we co la inc ps s), [Blk.var [AV.int IntKind.u8 t, AV.int IntKind.u8 g, AV.int IntKind.i64 n, AV.str d, AV.int IntKind.i64 (rev60_1 t g n d pa de so we co la inc ps s), AV.int IntKind.i64 de, AV.bool so, AV.int IntKind.u8 we, AV.int IntKind.u32 co, AV.int IntKind.i64 la, AV.int IntKind.i64 inc, AV.rf (nat_lit 1) [Kd.int IntKind.u16, Kd.int IntKind.u32]], Blk.row [Kd.int IntKind.u16, Kd.int IntKind.u32] ps]) else bif bif t == (1 : Int) then true else true then bif bif t == (1 : Int) then bif true then vev65_0 t g n d (rev60_1 t g n d pa de so we co la inc ps s) de so we co la inc Tk.lent ps else false else false then bif decide (rev60_3 t g n d pa de so we co la inc ps s < (5 : Int)) then some (true, AV.int IntKind.u32 (6 : Int), [Blk.var [AV.int IntKind.u8 t, AV.int IntKind.u8 g, AV.int IntKind.i64 n, AV.str d, AV.int IntKind.i64 (rev60_1 t g n d pa de so we co la inc ps s), AV.int IntKind.i64 de, AV.bool so, AV.int IntKind.u8 we, AV.int IntKind.u32 co, AV.int IntKind.i64 la, AV.int IntKind.i64 inc, AV.rf (nat_lit 1) [Kd.int IntKind.u16, Kd.int IntKind.u32]], Blk.row [Kd.int IntKind.u16, Kd.int IntKind.u32] ps]) else bif vev57_2 t g n d (rev60_1 t g n d pa de so we co la inc ps s) de so we co la inc ps (rev60_2 t g n d pa de so we co la inc ps s) then bif bnd (5 : Int) (rev60_3 t g n d pa de so we co la inc ps s) (rev60_3 t g n d pa de so we co la inc ps s) then some (true, AV.int IntKind.u32 (0 : Int), [Blk.var [AV.int IntKind.u8 t, AV.int IntKind.u8 g, AV.int IntKind.i64 n, AV.str (List.drop (Int.toNat (5 : Int)) (rev60_2 t g n d pa de so we co la inc ps s)), AV.int IntKind.i64 (rev60_1 t g n d pa de so we co la inc ps s), AV.int IntKind.i64 (vev59_0 (rev60_2 t g n d pa de so we co la inc ps s)), AV.bool (vev57_0 t g n d (rev60_1 t g n d pa de so we co la inc ps s) de so we co la inc ps (rev60_2 t g n d pa de so we co la inc ps s)), AV.int IntKind.u8 (vev57_1 t g n d (rev60_1 t g n d pa de so we co la inc ps s) de so we co la inc ps (rev60_2 t g n d pa de so we co la inc ps s)), AV.int IntKind.u32 co, AV.int IntKind.i64 la, AV.int IntKind.i64 inc, AV.rf (nat_lit 1) [Kd.int IntKind.u16, Kd.int IntKind.u32]], Blk.row [Kd.int IntKind.u16, Kd.int IntKind.u32] ps]) else none else none else some (true, AV.int IntKind.u32 (0 : Int), [Blk.var [AV.int IntKind.u8 t, AV.int IntKind.u8 g, AV.int IntKind.i64 n, AV.str (rev60_2 t g n d pa de so we co la inc ps s), AV.int IntKind.i64 (rev60_1 t g n d pa de so we co la inc ps s), AV.int IntKind.i64 de, AV.bool so, AV.int IntKind.u8 we, AV.int IntKind.u32 co, AV.int IntKind.i64 la, AV.int IntKind.i64 inc, AV.rf (nat_lit 1) [Kd.int IntKind.u16, Kd.int IntKind.u32]], Blk.row [Kd.int IntKind.u16, Kd.int IntKind.u32] ps]) else none else none := by kernel_rfl
  rw [h]
  clear h
  unfold vev60_0 vev60_1 vev60_2 vev60_3 vev60_4 vev60_5 vev60_6
  generalize (decide (rev60_3 t g n d pa de so we co la inc ps s < (5 : Int))) = c0
  generalize (vev57_2 t g n d (rev60_1 t g n d pa de so we co la inc ps s) de so we co la inc ps (rev60_2 t g n d pa de so we co la inc ps s)) = c1
  generalize (bnd (5 : Int) (rev60_3 t g n d pa de so we co la inc ps s) (rev60_3 t g n d pa de so we co la inc ps s)) = c2
  generalize (vev65_0 t g n d (rev60_1 t g n d pa de so we co la inc ps s) de so we co la inc Tk.lent ps) = c3
  generalize (rev60_0 t g n d pa de so we co la inc ps s != (0 : Int)) = c4
  generalize (vev71_3 t g n d pa de so we co la inc ps s) = c5
  generalize (t == (1 : Int)) = c6
  cases c5; rfl; cases c4; cases c6; rfl; cases c3; rfl; cases c0; cases c1; rfl; cases c2; rfl; rfl; rfl; rfl
-- spec vev60_6 t g n d pa de so we co la inc ps s ;; (true, AV.int IntKind.u32 (vev60_0 t g n d pa de so we co la inc ps s), [Blk.var [AV.int IntKind.u8 t, AV.int IntKind.u8 g, AV.int IntKind.i64 n, AV.str (vev60_1 t g n d pa de so we co la inc ps s), AV.int IntKind.i64 (vev60_2 t g n d pa de so we co la inc ps s), AV.int IntKind.i64 (vev60_3 t g n d pa de so we co la inc ps s), AV.bool (vev60_4 t g n d pa de so we co la inc ps s), AV.int IntKind.u8 (vev60_5 t g n d pa de so we co la inc ps s), AV.int IntKind.u32 co, AV.int IntKind.i64 la, AV.int IntKind.i64 inc, AV.rf (nat_lit 1) [Kd.int IntKind.u16, Kd.int IntKind.u32]], Blk.row [Kd.int IntKind.u16, Kd.int IntKind.u32] ps])
noncomputable def sp60 : List AV → List Blk → Option (Bool × AV × List Blk)
  | [.hp 0 0, .str s], [.var [.int .u8 t, .int .u8 g, .int .i64 n, .str d, .int .i64 pa, .int .i64 de, .bool so, .int .u8 we, .int .u32 co, .int .i64 la, .int .i64 inc, .rf 1 [.int .u16, .int .u32]], .row [.int .u16, .int .u32] ps] => spW (vev60_6 t g n d pa de so we co la inc ps s) (some ((true, AV.int IntKind.u32 (vev60_0 t g n d pa de so we co la inc ps s), [Blk.var [AV.int IntKind.u8 t, AV.int IntKind.u8 g, AV.int IntKind.i64 n, AV.str (vev60_1 t g n d pa de so we co la inc ps s), AV.int IntKind.i64 (vev60_2 t g n d pa de so we co la inc ps s), AV.int IntKind.i64 (vev60_3 t g n d pa de so we co la inc ps s), AV.bool (vev60_4 t g n d pa de so we co la inc ps s), AV.int IntKind.u8 (vev60_5 t g n d pa de so we co la inc ps s), AV.int IntKind.u32 co, AV.int IntKind.i64 la, AV.int IntKind.i64 inc, AV.rf (nat_lit 1) [Kd.int IntKind.u16, Kd.int IntKind.u32]], Blk.row [Kd.int IntKind.u16, Kd.int IntKind.u32] ps])))
  | _, _ => none
noncomputable def k60 : Gam := fun f T C => match Nat.beq f 60 with
  | true => (sp60 T C).or (k71 f T C)
  | false => k71 f T C
theorem k60_ok : GamOK Try.prog k60 := by
  intro f T C r outs h
  unfold k60 at h
  cases hf : Nat.beq f 60 with
  | false => rw [hf] at h; exact k71_ok f T C r outs h
  | true =>
    have hf' := Nat.eq_of_beq_eq_true hf
    subst hf'
    rw [hf] at h
    dsimp only at h
    cases hs : sp60 T C with
    | none => rw [hs] at h; exact k71_ok _ T C r outs h
    | some x =>
      rw [hs] at h
      have hx : x = (true, r, outs) := by simpa using h
      subst hx
      unfold sp60 at hs
      split at hs
      · rename_i s t g n d pa de so we co la inc ps
        obtain ⟨hb, rfl, rfl⟩ := spT_inv hs
        have he := ev60 t g n d pa de so we co la inc ps s
        rw [hb, cond_true] at he
        obtain ⟨r0, o0, h0, he⟩ := evFin_inv he
        obtain ⟨h1, h2⟩ := fn_ok mixed plain (gk_ok k71_ok 30) Try.func60 (fun c _ => LoopsOK.none (fun _ _ => rfl) c) h0
        exact ⟨h1, h2.fin he⟩
      · cases hs
noncomputable def rn37_8_0 (t1 : List UInt8) (b0_0 b0_1 b0_2 : Int) (b0_3 : List UInt8) (b0_4 b0_5 : Int) (b0_6 : Bool) (b0_7 b0_8 b0_9 b0_10 : Int) (b2 : List (List AV)) : List UInt8 := List.take (Int.toNat (2 : Int)) t1
noncomputable def rn37_8_1 (t1 : List UInt8) (b0_0 b0_1 b0_2 : Int) (b0_3 : List UInt8) (b0_4 b0_5 : Int) (b0_6 : Bool) (b0_7 b0_8 b0_9 b0_10 : Int) (b2 : List (List AV)) : List UInt8 := List.drop (Int.toNat (2 : Int)) (List.take (Int.toNat (6 : Int)) t1)
noncomputable def rn37_8_2 (t1 : List UInt8) (b0_0 b0_1 b0_2 : Int) (b0_3 : List UInt8) (b0_4 b0_5 : Int) (b0_6 : Bool) (b0_7 b0_8 b0_9 b0_10 : Int) (b2 : List (List AV)) : List (List AV) := [[AV.int IntKind.u16 (IntKind.u16.wrap (rev58_0 (rn37_8_0 t1 b0_0 b0_1 b0_2 b0_3 b0_4 b0_5 b0_6 b0_7 b0_8 b0_9 b0_10 b2)).fst), AV.int IntKind.u32 (rev58_0 (rn37_8_1 t1 b0_0 b0_1 b0_2 b0_3 b0_4 b0_5 b0_6 b0_7 b0_8 b0_9 b0_10 b2)).fst]]
noncomputable def go37_8 (t1 : List UInt8) (b0_0 b0_1 b0_2 : Int) (b0_3 : List UInt8) (b0_4 b0_5 : Int) (b0_6 : Bool) (b0_7 b0_8 b0_9 b0_10 : Int) (b2 : List (List AV)) : Bool := bif !t1 == (ByteArray.mk #[]).data.toList then bif bnd (0 : Int) (2 : Int) (↑t1.length : Int) then bif vev58_0 (rn37_8_0 t1 b0_0 b0_1 b0_2 b0_3 b0_4 b0_5 b0_6 b0_7 b0_8 b0_9 b0_10 b2) then bif bnd (2 : Int) (6 : Int) (↑t1.length : Int) then bif vev58_0 (rn37_8_1 t1 b0_0 b0_1 b0_2 b0_3 b0_4 b0_5 b0_6 b0_7 b0_8 b0_9 b0_10 b2) then bif bif decide ((b2.length + (rn37_8_2 t1 b0_0 b0_1 b0_2 b0_3 b0_4 b0_5 b0_6 b0_7 b0_8 b0_9 b0_10 b2).length) * (8 : Nat) ≤ (140737488355328 : Nat)) then decide (b2.length + (rn37_8_2 t1 b0_0 b0_1 b0_2 b0_3 b0_4 b0_5 b0_6 b0_7 b0_8 b0_9 b0_10 b2).length ≤ (9223372036854775807 : Nat)) else false then bnd (6 : Int) (↑t1.length : Int) (↑t1.length : Int) else false else false else false else false else false else false
noncomputable def nx37_8_0 (t1 : List UInt8) (b0_0 b0_1 b0_2 : Int) (b0_3 : List UInt8) (b0_4 b0_5 : Int) (b0_6 : Bool) (b0_7 b0_8 b0_9 b0_10 : Int) (b2 : List (List AV)) : List UInt8 := List.drop (Int.toNat (6 : Int)) t1
noncomputable def nx37_8_12 (t1 : List UInt8) (b0_0 b0_1 b0_2 : Int) (b0_3 : List UInt8) (b0_4 b0_5 : Int) (b0_6 : Bool) (b0_7 b0_8 b0_9 b0_10 : Int) (b2 : List (List AV)) : List (List AV) := b2 ++ rn37_8_2 t1 b0_0 b0_1 b0_2 b0_3 b0_4 b0_5 b0_6 b0_7 b0_8 b0_9 b0_10 b2
noncomputable def xc37_8_0 (t1 : List UInt8) (b0_0 b0_1 b0_2 : Int) (b0_3 : List UInt8) (b0_4 b0_5 : Int) (b0_6 : Bool) (b0_7 b0_8 b0_9 b0_10 : Int) (b2 : List (List AV)) : Bool := bif !t1 == (ByteArray.mk #[]).data.toList then false else true
theorem rd37_8 (rest : Lsp) (t1 : List UInt8) (b0_0 b0_1 b0_2 : Int) (b0_3 : List UInt8) (b0_4 b0_5 : Int) (b0_6 : Bool) (b0_7 b0_8 b0_9 b0_10 : Int) (b2 : List (List AV)) : roundV (cfg Try.prog tab 100000 (gk k60 30) rest 37 1 Try.f37.ntmps) (loopAt Try.f37 8) [0, 1] [0, 1, 2] [] [0, 1, 2] [AV.hp (nat_lit 0) (nat_lit 0), AV.str t1] [Blk.var [AV.int IntKind.u8 b0_0, AV.int IntKind.u8 b0_1, AV.int IntKind.i64 b0_2, AV.str b0_3, AV.int IntKind.i64 b0_4, AV.int IntKind.i64 b0_5, AV.bool b0_6, AV.int IntKind.u8 b0_7, AV.int IntKind.u32 b0_8, AV.int IntKind.i64 b0_9, AV.int IntKind.i64 b0_10, AV.rf (nat_lit 2) [Kd.int IntKind.u16, Kd.int IntKind.u32]], Blk.dead, Blk.row [Kd.int IntKind.u16, Kd.int IntKind.u32] b2] = bif go37_8 t1 b0_0 b0_1 b0_2 b0_3 b0_4 b0_5 b0_6 b0_7 b0_8 b0_9 b0_10 b2 then some (Ex.norm, [AV.hp (nat_lit 0) (nat_lit 0), AV.str (nx37_8_0 t1 b0_0 b0_1 b0_2 b0_3 b0_4 b0_5 b0_6 b0_7 b0_8 b0_9 b0_10 b2)], [Blk.var [AV.int IntKind.u8 b0_0, AV.int IntKind.u8 b0_1, AV.int IntKind.i64 b0_2, AV.str b0_3, AV.int IntKind.i64 b0_4, AV.int IntKind.i64 b0_5, AV.bool b0_6, AV.int IntKind.u8 b0_7, AV.int IntKind.u32 b0_8, AV.int IntKind.i64 b0_9, AV.int IntKind.i64 b0_10, AV.rf (nat_lit 2) [Kd.int IntKind.u16, Kd.int IntKind.u32]], Blk.dead, Blk.row [Kd.int IntKind.u16, Kd.int IntKind.u32] (nx37_8_12 t1 b0_0 b0_1 b0_2 b0_3 b0_4 b0_5 b0_6 b0_7 b0_8 b0_9 b0_10 b2)]) else bif xc37_8_0 t1 b0_0 b0_1 b0_2 b0_3 b0_4 b0_5 b0_6 b0_7 b0_8 b0_9 b0_10 b2 then some (Ex.exit (nat_lit 1), [], [Blk.var [AV.int IntKind.u8 b0_0, AV.int IntKind.u8 b0_1, AV.int IntKind.i64 b0_2, AV.str b0_3, AV.int IntKind.i64 b0_4, AV.int IntKind.i64 b0_5, AV.bool b0_6, AV.int IntKind.u8 b0_7, AV.int IntKind.u32 b0_8, AV.int IntKind.i64 b0_9, AV.int IntKind.i64 b0_10, AV.rf (nat_lit 2) [Kd.int IntKind.u16, Kd.int IntKind.u32]], Blk.dead, Blk.row [Kd.int IntKind.u16, Kd.int IntKind.u32] b2]) else none := by
  have h : roundV (cfg Try.prog tab 100000 (gk k60 30) rest 37 1 Try.f37.ntmps) (loopAt Try.f37 8) [0, 1] [0, 1, 2] [] [0, 1, 2] [AV.hp (nat_lit 0) (nat_lit 0), AV.str t1] [Blk.var [AV.int IntKind.u8 b0_0, AV.int IntKind.u8 b0_1, AV.int IntKind.i64 b0_2, AV.str b0_3, AV.int IntKind.i64 b0_4, AV.int IntKind.i64 b0_5, AV.bool b0_6, AV.int IntKind.u8 b0_7, AV.int IntKind.u32 b0_8, AV.int IntKind.i64 b0_9, AV.int IntKind.i64 b0_10, AV.rf (nat_lit 2) [Kd.int IntKind.u16, Kd.int IntKind.u32]], Blk.dead, Blk.row [Kd.int IntKind.u16, Kd.int IntKind.u32] b2] = bif !t1 == (ByteArray.mk #[]).data.toList then bif bnd (0 : Int) (2 : Int) (↑t1.length : Int) then bif vev58_0 (rn37_8_0 t1 b0_0 b0_1 b0_2 b0_3 b0_4 b0_5 b0_6 b0_7 b0_8 b0_9 b0_10 b2) then bif bnd (2 : Int) (6 : Int) (↑t1.length : Int) then bif vev58_0 (rn37_8_1 t1 b0_0 b0_1 b0_2 b0_3 b0_4 b0_5 b0_6 b0_7 b0_8 b0_9 b0_10 b2) then bif bif decide ((b2.length + (rn37_8_2 t1 b0_0 b0_1 b0_2 b0_3 b0_4 b0_5 b0_6 b0_7 b0_8 b0_9 b0_10 b2).length) * (8 : Nat) ≤ (140737488355328 : Nat)) then decide (b2.length + (rn37_8_2 t1 b0_0 b0_1 b0_2 b0_3 b0_4 b0_5 b0_6 b0_7 b0_8 b0_9 b0_10 b2).length ≤ (9223372036854775807 : Nat)) else false then bif bnd (6 : Int) (↑t1.length : Int) (↑t1.length : Int) then some (Ex.norm, [AV.hp (nat_lit 0) (nat_lit 0), AV.str (List.drop (Int.toNat (6 : Int)) t1)], [Blk.var [AV.int IntKind.u8 b0_0, AV.int IntKind.u8 b0_1, AV.int IntKind.i64 b0_2, AV.str b0_3, AV.int IntKind.i64 b0_4, AV.int IntKind.i64 b0_5, AV.bool b0_6, AV.int IntKind.u8 b0_7, AV.int IntKind.u32 b0_8, AV.int IntKind.i64 b0_9, AV.int IntKind.i64 b0_10, AV.rf (nat_lit 2) [Kd.int IntKind.u16, Kd.int IntKind.u32]], Blk.dead, Blk.row [Kd.int IntKind.u16, Kd.int IntKind.u32] (b2 ++ rn37_8_2 t1 b0_0 b0_1 b0_2 b0_3 b0_4 b0_5 b0_6 b0_7 b0_8 b0_9 b0_10 b2)]) else none else none else none else none else none else none else some (Ex.exit (nat_lit 1), [], [Blk.var [AV.int IntKind.u8 b0_0, AV.int IntKind.u8 b0_1, AV.int IntKind.i64 b0_2, AV.str b0_3, AV.int IntKind.i64 b0_4, AV.int IntKind.i64 b0_5, AV.bool b0_6, AV.int IntKind.u8 b0_7, AV.int IntKind.u32 b0_8, AV.int IntKind.i64 b0_9, AV.int IntKind.i64 b0_10, AV.rf (nat_lit 2) [Kd.int IntKind.u16, Kd.int IntKind.u32]], Blk.dead, Blk.row [Kd.int IntKind.u16, Kd.int IntKind.u32] b2]) := by kernel_rfl
  rw [h]
  clear h
  unfold go37_8 nx37_8_0 nx37_8_12 xc37_8_0
  generalize (decide ((b2.length + (rn37_8_2 t1 b0_0 b0_1 b0_2 b0_3 b0_4 b0_5 b0_6 b0_7 b0_8 b0_9 b0_10 b2).length) * (8 : Nat) ≤ (140737488355328 : Nat))) = c0
  generalize (decide (b2.length + (rn37_8_2 t1 b0_0 b0_1 b0_2 b0_3 b0_4 b0_5 b0_6 b0_7 b0_8 b0_9 b0_10 b2).length ≤ (9223372036854775807 : Nat))) = c1
  generalize (bnd (6 : Int) (↑t1.length : Int) (↑t1.length : Int)) = c2
  generalize (!t1 == (ByteArray.mk #[]).data.toList) = c3
  generalize (bnd (2 : Int) (6 : Int) (↑t1.length : Int)) = c4
  generalize (bnd (0 : Int) (2 : Int) (↑t1.length : Int)) = c5
  generalize (vev58_0 (rn37_8_1 t1 b0_0 b0_1 b0_2 b0_3 b0_4 b0_5 b0_6 b0_7 b0_8 b0_9 b0_10 b2)) = c6
  generalize (vev58_0 (rn37_8_0 t1 b0_0 b0_1 b0_2 b0_3 b0_4 b0_5 b0_6 b0_7 b0_8 b0_9 b0_10 b2)) = c7
  cases c3; rfl; cases c5; rfl; cases c7; rfl; cases c4; rfl; cases c6; rfl; cases c0; rfl; cases c1; rfl; cases c2; rfl; rfl
abbrev pl37_8 : Type := Int × Int × Int × (List UInt8) × Int × Int × Bool × Int × Int × Int × Int
abbrev sl37_8 : Type := (List UInt8) × (List (List AV))
noncomputable def vt37_8 (a : pl37_8 × sl37_8) : List AV := [AV.hp (nat_lit 0) (nat_lit 0), AV.str a.2.1]
noncomputable def vc37_8 (a : pl37_8 × sl37_8) : List Blk := [Blk.var [AV.int IntKind.u8 a.1.1, AV.int IntKind.u8 a.1.2.1, AV.int IntKind.i64 a.1.2.2.1, AV.str a.1.2.2.2.1, AV.int IntKind.i64 a.1.2.2.2.2.1, AV.int IntKind.i64 a.1.2.2.2.2.2.1, AV.bool a.1.2.2.2.2.2.2.1, AV.int IntKind.u8 a.1.2.2.2.2.2.2.2.1, AV.int IntKind.u32 a.1.2.2.2.2.2.2.2.2.1, AV.int IntKind.i64 a.1.2.2.2.2.2.2.2.2.2.1, AV.int IntKind.i64 a.1.2.2.2.2.2.2.2.2.2.2, AV.rf (nat_lit 2) [Kd.int IntKind.u16, Kd.int IntKind.u32]], Blk.dead, Blk.row [Kd.int IntKind.u16, Kd.int IntKind.u32] a.2.2]
noncomputable def de37_8 (vt : List AV) (vc : List Blk) : Option (pl37_8 × sl37_8) :=
  match vt with
  | [qa0, qa1] => (match vc with
  | [qb0, qb1, qb2] => (match qa0 with
  | AV.hp (0) (0) => (match qa1 with
  | AV.str t1 => (match qb0 with
  | Blk.var [AV.int IntKind.u8 b0_0, AV.int IntKind.u8 b0_1, AV.int IntKind.i64 b0_2, AV.str b0_3, AV.int IntKind.i64 b0_4, AV.int IntKind.i64 b0_5, AV.bool b0_6, AV.int IntKind.u8 b0_7, AV.int IntKind.u32 b0_8, AV.int IntKind.i64 b0_9, AV.int IntKind.i64 b0_10, AV.rf (2) [Kd.int IntKind.u16, Kd.int IntKind.u32]] => (match qb1 with
  | Blk.dead => (match qb2 with
  | Blk.row [Kd.int IntKind.u16, Kd.int IntKind.u32] b2 => (some ((b0_0, b0_1, b0_2, b0_3, b0_4, b0_5, b0_6, b0_7, b0_8, b0_9, b0_10), (t1, b2)))
  | _ => none)
  | _ => none)
  | _ => none)
  | _ => none)
  | _ => none)
  | _ => none)
  | _ => none
theorem de37_8_ok (vt : List AV) (vc : List Blk) (a : pl37_8 × sl37_8) (h : de37_8 vt vc = some a) : vt = vt37_8 a ∧ vc = vc37_8 a := by
  unfold de37_8 at h
  split at h
  rotate_left
  · cases h
  split at h
  rotate_left
  · cases h
  split at h
  rotate_left
  · cases h
  split at h
  rotate_left
  · cases h
  split at h
  rotate_left
  · cases h
  split at h
  rotate_left
  · cases h
  split at h
  rotate_left
  · cases h
  injection h with h
  subst h
  exact ⟨rfl, rfl⟩
noncomputable def g37_8 (p : pl37_8) (s : sl37_8) : Bool := go37_8 s.1 p.1 p.2.1 p.2.2.1 p.2.2.2.1 p.2.2.2.2.1 p.2.2.2.2.2.1 p.2.2.2.2.2.2.1 p.2.2.2.2.2.2.2.1 p.2.2.2.2.2.2.2.2.1 p.2.2.2.2.2.2.2.2.2.1 p.2.2.2.2.2.2.2.2.2.2 s.2
noncomputable def n37_8 (p : pl37_8) (s : sl37_8) : sl37_8 := (nx37_8_0 s.1 p.1 p.2.1 p.2.2.1 p.2.2.2.1 p.2.2.2.2.1 p.2.2.2.2.2.1 p.2.2.2.2.2.2.1 p.2.2.2.2.2.2.2.1 p.2.2.2.2.2.2.2.2.1 p.2.2.2.2.2.2.2.2.2.1 p.2.2.2.2.2.2.2.2.2.2 s.2, nx37_8_12 s.1 p.1 p.2.1 p.2.2.1 p.2.2.2.1 p.2.2.2.2.1 p.2.2.2.2.2.1 p.2.2.2.2.2.2.1 p.2.2.2.2.2.2.2.1 p.2.2.2.2.2.2.2.2.1 p.2.2.2.2.2.2.2.2.2.1 p.2.2.2.2.2.2.2.2.2.2 s.2)
noncomputable def y37_8 (p : pl37_8) (s : sl37_8) : List (Bool × Out) := []
noncomputable def z37_8 (p : pl37_8) (s : sl37_8) : Bool := xc37_8_0 s.1 p.1 p.2.1 p.2.2.1 p.2.2.2.1 p.2.2.2.2.1 p.2.2.2.2.2.1 p.2.2.2.2.2.2.1 p.2.2.2.2.2.2.2.1 p.2.2.2.2.2.2.2.2.1 p.2.2.2.2.2.2.2.2.2.1 p.2.2.2.2.2.2.2.2.2.2 s.2
noncomputable def d37_8 (p : pl37_8) (s : sl37_8) : Out := (Ex.exit (nat_lit 1), [], [Blk.var [AV.int IntKind.u8 p.1, AV.int IntKind.u8 p.2.1, AV.int IntKind.i64 p.2.2.1, AV.str p.2.2.2.1, AV.int IntKind.i64 p.2.2.2.2.1, AV.int IntKind.i64 p.2.2.2.2.2.1, AV.bool p.2.2.2.2.2.2.1, AV.int IntKind.u8 p.2.2.2.2.2.2.2.1, AV.int IntKind.u32 p.2.2.2.2.2.2.2.2.1, AV.int IntKind.i64 p.2.2.2.2.2.2.2.2.2.1, AV.int IntKind.i64 p.2.2.2.2.2.2.2.2.2.2, AV.rf (nat_lit 2) [Kd.int IntKind.u16, Kd.int IntKind.u32]], Blk.dead, Blk.row [Kd.int IntKind.u16, Kd.int IntKind.u32] s.2])
noncomputable def ls37_8 : St → Option (Bool × List (Bool × Ex × St) × Ex × St) := lspOf [0, 1] [0, 1, 2] [] [0, 1, 2] Try.f37.ntmps (1 + tab.nid 37) de37_8 (spI g37_8 n37_8 y37_8 z37_8 d37_8)
theorem lo37_8 (rest : Lsp) : LoopOK1 (cfg Try.prog tab 100000 (gk k60 30) (selL 8 ls37_8 rest) 37 1 Try.f37.ntmps) (loopAt Try.f37 8) := LoopOK1.iter (i := 8) (by kernel_rfl) [0, 1] [0, 1, 2] [] [0, 1, 2] vt37_8 vc37_8 de37_8 g37_8 n37_8 y37_8 z37_8 d37_8 (fun _ => rfl) de37_8_ok (fun p s => rd37_8 (selL 8 ls37_8 rest) (s.1) (p.1) (p.2.1) (p.2.2.1) (p.2.2.2.1) (p.2.2.2.2.1) (p.2.2.2.2.2.1) (p.2.2.2.2.2.2.1) (p.2.2.2.2.2.2.2.1) (p.2.2.2.2.2.2.2.2.1) (p.2.2.2.2.2.2.2.2.2.1) (p.2.2.2.2.2.2.2.2.2.2) (s.2)) (fun _ _ => rfl)
noncomputable def lsp37 : Lsp := (selL 8 ls37_8 noLsp)
theorem loops37 : ∀ c, Try.f37.body = some c → LoopsOK (cfg Try.prog tab 100000 (gk k60 30) lsp37 37 1 Try.f37.ntmps) c := loops_of [8] (by kernel_rfl) (by kernel_rfl) (fun i hi => by
  simp only [List.mem_cons, List.not_mem_nil, or_false] at hi
  subst hi
  · exact lo37_8 noLsp)
noncomputable def rev37_0 (t g n : Int) (d : List UInt8) (pa de : Int) (so : Bool) (we co la inc : Int) (s : List UInt8) : sl37_8 := finL (g37_8 (t, g, n, d, pa, de, so, we, co, la, inc)) (n37_8 (t, g, n, d, pa, de, so, we, co, la, inc)) (s, [])
noncomputable def rev37_1 (t g n : Int) (d : List UInt8) (pa de : Int) (so : Bool) (we co la inc : Int) (s : List UInt8) : List UInt8 := List.drop (Int.toNat (4 : Int)) (List.take (Int.toNat (8 : Int)) s)
noncomputable def vev37_0 (t g n : Int) (d : List UInt8) (pa de : Int) (so : Bool) (we co la inc : Int) (s : List UInt8) : Int := bif t == (2 : Int) then (0 : Int) else bif t == (3 : Int) then (0 : Int) else bif t == (4 : Int) then (0 : Int) else bif t == (7 : Int) then (0 : Int) else bif t == (8 : Int) then bif vev59_0 s == (0 : Int) then (1 : Int) else (0 : Int) else vev60_0 t g n d pa de so we co la inc [] s
noncomputable def vev37_1 (t g n : Int) (d : List UInt8) (pa de : Int) (so : Bool) (we co la inc : Int) (s : List UInt8) : List UInt8 := bif t == (2 : Int) then d else bif t == (3 : Int) then d else bif t == (4 : Int) then d else bif t == (7 : Int) then List.drop (Int.toNat (8 : Int)) s else bif t == (8 : Int) then d else vev60_1 t g n d pa de so we co la inc [] s
noncomputable def vev37_2 (t g n : Int) (d : List UInt8) (pa de : Int) (so : Bool) (we co la inc : Int) (s : List UInt8) : Int := bif t == (2 : Int) then pa else bif t == (3 : Int) then pa else bif t == (4 : Int) then pa else bif t == (7 : Int) then pa else bif t == (8 : Int) then pa else vev60_2 t g n d pa de so we co la inc [] s
noncomputable def vev37_3 (t g n : Int) (d : List UInt8) (pa de : Int) (so : Bool) (we co la inc : Int) (s : List UInt8) : Int := bif t == (2 : Int) then vev59_0 s else bif t == (3 : Int) then de else bif t == (4 : Int) then de else bif t == (7 : Int) then de else bif t == (8 : Int) then de else vev60_3 t g n d pa de so we co la inc [] s
noncomputable def vev37_4 (t g n : Int) (d : List UInt8) (pa de : Int) (so : Bool) (we co la inc : Int) (s : List UInt8) : Bool := bif t == (2 : Int) then vev57_0 t g n d pa de so we co la inc [] s else bif t == (3 : Int) then so else bif t == (4 : Int) then so else bif t == (7 : Int) then so else bif t == (8 : Int) then so else vev60_4 t g n d pa de so we co la inc [] s
noncomputable def vev37_5 (t g n : Int) (d : List UInt8) (pa de : Int) (so : Bool) (we co la inc : Int) (s : List UInt8) : Int := bif t == (2 : Int) then vev57_1 t g n d pa de so we co la inc [] s else bif t == (3 : Int) then we else bif t == (4 : Int) then we else bif t == (7 : Int) then we else bif t == (8 : Int) then we else vev60_5 t g n d pa de so we co la inc [] s
noncomputable def vev37_6 (t g n : Int) (d : List UInt8) (pa de : Int) (so : Bool) (we co la inc : Int) (s : List UInt8) : Int := bif t == (2 : Int) then co else bif t == (3 : Int) then (rev58_0 s).fst else bif t == (4 : Int) then co else bif t == (7 : Int) then (rev58_0 (rev37_1 t g n d pa de so we co la inc s)).fst else co
noncomputable def vev37_7 (t g n : Int) (d : List UInt8) (pa de : Int) (so : Bool) (we co la inc : Int) (s : List UInt8) : Int := bif t == (2 : Int) then la else bif t == (3 : Int) then la else bif t == (4 : Int) then la else bif t == (7 : Int) then vev59_0 s else la
noncomputable def vev37_8 (t g n : Int) (d : List UInt8) (pa de : Int) (so : Bool) (we co la inc : Int) (s : List UInt8) : Int := bif t == (2 : Int) then inc else bif t == (3 : Int) then inc else bif t == (4 : Int) then inc else bif t == (7 : Int) then inc else bif t == (8 : Int) then vev59_0 s else inc
noncomputable def vev37_9 (t g n : Int) (d : List UInt8) (pa de : Int) (so : Bool) (we co la inc : Int) (s : List UInt8) : List (List AV) := bif t == (2 : Int) then [] else bif t == (3 : Int) then [] else bif t == (4 : Int) then (rev37_0 t g n d pa de so we co la inc s).snd else []
noncomputable def vev37_10 (t g n : Int) (d : List UInt8) (pa de : Int) (so : Bool) (we co la inc : Int) (s : List UInt8) : Bool := bif t == (2 : Int) then bif vev57_2 t g n d pa de so we co la inc [] s then true else false else bif t == (3 : Int) then bif vev58_0 s then true else false else bif t == (4 : Int) then bif (spI g37_8 n37_8 y37_8 z37_8 d37_8 ((t, g, n, d, pa, de, so, we, co, la, inc), s, [])).fst then true else false else bif t == (7 : Int) then bif vev59_1 s then bif bnd (4 : Int) (8 : Int) (↑s.length : Int) then bif vev58_0 (rev37_1 t g n d pa de so we co la inc s) then bif bnd (8 : Int) (↑s.length : Int) (↑s.length : Int) then true else false else false else false else false else bif t == (8 : Int) then bif vev59_1 s then true else false else bif vev60_6 t g n d pa de so we co la inc [] s then true else false
theorem ev37 (t g n : Int) (d : List UInt8) (pa de : Int) (so : Bool) (we co la inc : Int) (s : List UInt8) : evFun (cfg Try.prog tab 100000 (gk k60 30) lsp37 37 ([.var [.int .u8 t, .int .u8 g, .int .i64 n, .str d, .int .i64 pa, .int .i64 de, .bool so, .int .u8 we, .int .u32 co, .int .i64 la, .int .i64 inc, .nil]] : List Blk).length Try.f37.ntmps) Try.f37 [.hp 0 0, .str s] [.var [.int .u8 t, .int .u8 g, .int .i64 n, .str d, .int .i64 pa, .int .i64 de, .bool so, .int .u8 we, .int .u32 co, .int .i64 la, .int .i64 inc, .nil]] = bif vev37_10 t g n d pa de so we co la inc s then some (AV.int IntKind.u32 (vev37_0 t g n d pa de so we co la inc s), [Blk.var [AV.int IntKind.u8 t, AV.int IntKind.u8 g, AV.int IntKind.i64 n, AV.str (vev37_1 t g n d pa de so we co la inc s), AV.int IntKind.i64 (vev37_2 t g n d pa de so we co la inc s), AV.int IntKind.i64 (vev37_3 t g n d pa de so we co la inc s), AV.bool (vev37_4 t g n d pa de so we co la inc s), AV.int IntKind.u8 (vev37_5 t g n d pa de so we co la inc s), AV.int IntKind.u32 (vev37_6 t g n d pa de so we co la inc s), AV.int IntKind.i64 (vev37_7 t g n d pa de so we co la inc s), AV.int IntKind.i64 (vev37_8 t g n d pa de so we co la inc s), AV.rf (nat_lit 1) [Kd.int IntKind.u16, Kd.int IntKind.u32]], Blk.row [Kd.int IntKind.u16, Kd.int IntKind.u32] (vev37_9 t g n d pa de so we co la inc s)]) else none := by
  have h : evFun (cfg Try.prog tab 100000 (gk k60 30) lsp37 37 ([.var [.int .u8 t, .int .u8 g, .int .i64 n, .str d, .int .i64 pa, .int .i64 de, .bool so, .int .u8 we, .int .u32 co, .int .i64 la, .int .i64 inc, .nil]] : List Blk).length Try.f37.ntmps) Try.f37 [.hp 0 0, .str s] [.var [.int .u8 t, .int .u8 g, .int .i64 n, .str d, .int .i64 pa, .int .i64 de, .bool so, .int .u8 we, .int .u32 co, .int .i64 la, .int .i64 inc, .nil]] = bif t == (2 : Int) then bif vev57_2 t g n d pa de so we co la inc [] s then some (AV.int IntKind.u32 (0 : Int), [Blk.var [AV.int IntKind.u8 t, AV.int IntKind.u8 g, AV.int IntKind.i64 n, AV.str d, AV.int IntKind.i64 pa, AV.int IntKind.i64 (vev59_0 s), AV.bool (vev57_0 t g n d pa de so we co la inc [] s), AV.int IntKind.u8 (vev57_1 t g n d pa de so we co la inc [] s), AV.int IntKind.u32 co, AV.int IntKind.i64 la, AV.int IntKind.i64 inc, AV.rf (nat_lit 1) [Kd.int IntKind.u16, Kd.int IntKind.u32]], Blk.row [Kd.int IntKind.u16, Kd.int IntKind.u32] []]) else none else bif t == (3 : Int) then bif vev58_0 s then some (AV.int IntKind.u32 (0 : Int), [Blk.var [AV.int IntKind.u8 t, AV.int IntKind.u8 g, AV.int IntKind.i64 n, AV.str d, AV.int IntKind.i64 pa, AV.int IntKind.i64 de, AV.bool so, AV.int IntKind.u8 we, AV.int IntKind.u32 (rev58_0 s).fst, AV.int IntKind.i64 la, AV.int IntKind.i64 inc, AV.rf (nat_lit 1) [Kd.int IntKind.u16, Kd.int IntKind.u32]], Blk.row [Kd.int IntKind.u16, Kd.int IntKind.u32] []]) else none else bif t == (4 : Int) then bif (spI g37_8 n37_8 y37_8 z37_8 d37_8 ((t, g, n, d, pa, de, so, we, co, la, inc), s, [])).fst then some (AV.int IntKind.u32 (0 : Int), [Blk.var [AV.int IntKind.u8 t, AV.int IntKind.u8 g, AV.int IntKind.i64 n, AV.str d, AV.int IntKind.i64 pa, AV.int IntKind.i64 de, AV.bool so, AV.int IntKind.u8 we, AV.int IntKind.u32 co, AV.int IntKind.i64 la, AV.int IntKind.i64 inc, AV.rf (nat_lit 1) [Kd.int IntKind.u16, Kd.int IntKind.u32]], Blk.row [Kd.int IntKind.u16, Kd.int IntKind.u32] (rev37_0 t g n d pa de so we co la inc s).snd]) else none else bif t == (7 : Int) then bif vev59_1 s then bif bnd (4 : Int) (8 : Int) (↑s.length : Int) then bif vev58_0 (rev37_1 t g n d pa de so we co la inc s) then bif bnd (8 : Int) (↑s.length : Int) (↑s.length : Int) then some (AV.int IntKind.u32 (0 : Int), [Blk.var [AV.int IntKind.u8 t, AV.int IntKind.u8 g, AV.int IntKind.i64 n, AV.str (List.drop (Int.toNat (8 : Int)) s), AV.int IntKind.i64 pa, AV.int IntKind.i64 de, AV.bool so, AV.int IntKind.u8 we, AV.int IntKind.u32 (rev58_0 (rev37_1 t g n d pa de so we co la inc s)).fst, AV.int IntKind.i64 (vev59_0 s), AV.int IntKind.i64 inc, AV.rf (nat_lit 1) [Kd.int IntKind.u16, Kd.int IntKind.u32]], Blk.row [Kd.int IntKind.u16, Kd.int IntKind.u32] []]) else none else none else none else none else bif t == (8 : Int) then bif vev59_1 s then bif vev59_0 s == (0 : Int) then some (AV.int IntKind.u32 (1 : Int), [Blk.var [AV.int IntKind.u8 t, AV.int IntKind.u8 g, AV.int IntKind.i64 n, AV.str d, AV.int IntKind.i64 pa, AV.int IntKind.i64 de, AV.bool so, AV.int IntKind.u8 we, AV.int IntKind.u32 co, AV.int IntKind.i64 la, AV.int IntKind.i64 (vev59_0 s), AV.rf (nat_lit 1) [Kd.int IntKind.u16, Kd.int IntKind.u32]], Blk.row [Kd.int IntKind.u16, Kd.int IntKind.u32] []]) else some (AV.int IntKind.u32 (0 : Int), [Blk.var [AV.int IntKind.u8 t, AV.int IntKind.u8 g, AV.int IntKind.i64 n, AV.str d, AV.int IntKind.i64 pa, AV.int IntKind.i64 de, AV.bool so, AV.int IntKind.u8 we, AV.int IntKind.u32 co, AV.int IntKind.i64 la, AV.int IntKind.i64 (vev59_0 s), AV.rf (nat_lit 1) [Kd.int IntKind.u16, Kd.int IntKind.u32]], Blk.row [Kd.int IntKind.u16, Kd.int IntKind.u32] []]) else none else bif vev60_6 t g n d pa de so we co la inc [] s then some (AV.int IntKind.u32 (vev60_0 t g n d pa de so we co la inc [] s), [Blk.var [AV.int IntKind.u8 t, AV.int IntKind.u8 g, AV.int IntKind.i64 n, AV.str (vev60_1 t g n d pa de so we co la inc [] s), AV.int IntKind.i64 (vev60_2 t g n d pa de so we co la inc [] s), AV.int IntKind.i64 (vev60_3 t g n d pa de so we co la inc [] s), AV.bool (vev60_4 t g n d pa de so we co la inc [] s), AV.int IntKind.u8 (vev60_5 t g n d pa de so we co la inc [] s), AV.int IntKind.u32 co, AV.int IntKind.i64 la, AV.int IntKind.i64 inc, AV.rf (nat_lit 1) [Kd.int IntKind.u16, Kd.int IntKind.u32]], Blk.row [Kd.int IntKind.u16, Kd.int IntKind.u32] []]) else none := by kernel_rfl
  rw [h]
  clear h
  unfold vev37_0 vev37_1 vev37_2 vev37_3 vev37_4 vev37_5 vev37_6 vev37_7 vev37_8 vev37_9 vev37_10
  generalize ((spI g37_8 n37_8 y37_8 z37_8 d37_8 ((t, g, n, d, pa, de, so, we, co, la, inc), s, [])).fst) = c0
  generalize (bnd (8 : Int) (↑s.length : Int) (↑s.length : Int)) = c1
  generalize (bnd (4 : Int) (8 : Int) (↑s.length : Int)) = c2
  generalize (vev60_6 t g n d pa de so we co la inc [] s) = c3
  generalize (vev57_2 t g n d pa de so we co la inc [] s) = c4
  generalize (vev58_0 (rev37_1 t g n d pa de so we co la inc s)) = c5
  generalize (vev59_0 s == (0 : Int)) = c6
  generalize (t == (2 : Int)) = c7
  generalize (t == (8 : Int)) = c8
  generalize (t == (3 : Int)) = c9
  generalize (t == (4 : Int)) = c10
  generalize (t == (7 : Int)) = c11
  generalize (vev59_1 s) = c12
  generalize (vev58_0 s) = c13
  cases c7; cases c9; cases c10; cases c11; cases c8; cases c3; rfl; rfl; cases c12; rfl; cases c6; rfl; rfl; cases c12; rfl; cases c2; rfl; cases c5
  rfl; cases c1; rfl; rfl; cases c0; rfl; rfl; cases c13; rfl; rfl; cases c4; rfl; rfl
-- spec vev37_10 t g n d pa de so we co la inc s ;; (AV.int IntKind.u32 (vev37_0 t g n d pa de so we co la inc s), [Blk.var [AV.int IntKind.u8 t, AV.int IntKind.u8 g, AV.int IntKind.i64 n, AV.str (vev37_1 t g n d pa de so we co la inc s), AV.int IntKind.i64 (vev37_2 t g n d pa de so we co la inc s), AV.int IntKind.i64 (vev37_3 t g n d pa de so we co la inc s), AV.bool (vev37_4 t g n d pa de so we co la inc s), AV.int IntKind.u8 (vev37_5 t g n d pa de so we co la inc s), AV.int IntKind.u32 (vev37_6 t g n d pa de so we co la inc s), AV.int IntKind.i64 (vev37_7 t g n d pa de so we co la inc s), AV.int IntKind.i64 (vev37_8 t g n d pa de so we co la inc s), AV.rf (nat_lit 1) [Kd.int IntKind.u16, Kd.int IntKind.u32]], Blk.row [Kd.int IntKind.u16, Kd.int IntKind.u32] (vev37_9 t g n d pa de so we co la inc s)])
noncomputable def sp37 : List AV → List Blk → Option (Bool × AV × List Blk)
  | [.hp 0 0, .str s], [.var [.int .u8 t, .int .u8 g, .int .i64 n, .str d, .int .i64 pa, .int .i64 de, .bool so, .int .u8 we, .int .u32 co, .int .i64 la, .int .i64 inc, .nil]] => spW (vev37_10 t g n d pa de so we co la inc s) (fin Try.prog (tab.frz 37) ([.var [.int .u8 t, .int .u8 g, .int .i64 n, .str d, .int .i64 pa, .int .i64 de, .bool so, .int .u8 we, .int .u32 co, .int .i64 la, .int .i64 inc, .nil]] : List Blk).length Try.f37.resultTypes.toList (some ((AV.int IntKind.u32 (vev37_0 t g n d pa de so we co la inc s), [Blk.var [AV.int IntKind.u8 t, AV.int IntKind.u8 g, AV.int IntKind.i64 n, AV.str (vev37_1 t g n d pa de so we co la inc s), AV.int IntKind.i64 (vev37_2 t g n d pa de so we co la inc s), AV.int IntKind.i64 (vev37_3 t g n d pa de so we co la inc s), AV.bool (vev37_4 t g n d pa de so we co la inc s), AV.int IntKind.u8 (vev37_5 t g n d pa de so we co la inc s), AV.int IntKind.u32 (vev37_6 t g n d pa de so we co la inc s), AV.int IntKind.i64 (vev37_7 t g n d pa de so we co la inc s), AV.int IntKind.i64 (vev37_8 t g n d pa de so we co la inc s), AV.rf (nat_lit 1) [Kd.int IntKind.u16, Kd.int IntKind.u32]], Blk.row [Kd.int IntKind.u16, Kd.int IntKind.u32] (vev37_9 t g n d pa de so we co la inc s)]))))
  | _, _ => none
noncomputable def k37 : Gam := fun f T C => match Nat.beq f 37 with
  | true => (sp37 T C).or (k60 f T C)
  | false => k60 f T C
theorem k37_ok : GamOK Try.prog k37 := by
  intro f T C r outs h
  unfold k37 at h
  cases hf : Nat.beq f 37 with
  | false => rw [hf] at h; exact k60_ok f T C r outs h
  | true =>
    have hf' := Nat.eq_of_beq_eq_true hf
    subst hf'
    rw [hf] at h
    dsimp only at h
    cases hs : sp37 T C with
    | none => rw [hs] at h; exact k60_ok _ T C r outs h
    | some x =>
      rw [hs] at h
      have hx : x = (true, r, outs) := by simpa using h
      subst hx
      unfold sp37 at hs
      split at hs
      · rename_i s t g n d pa de so we co la inc
        obtain ⟨hb, hs⟩ := spW_inv hs
        have he := ev37 t g n d pa de so we co la inc s
        rw [hb, cond_true] at he
        obtain ⟨h1, h2⟩ := fn_ok mixed plain (gk_ok k60_ok 30) Try.func37 loops37 he
        exact ⟨h1, h2.fin hs⟩
      · cases hs
noncomputable def rev12_0 (l t g n : Int) (s : List UInt8) : Int := vev37_0 t g n (ByteArray.mk #[]).data.toList (0 : Int) (0 : Int) false (0 : Int) (0 : Int) (0 : Int) (0 : Int) s
noncomputable def rev12_1 (l t g n : Int) (s : List UInt8) : List UInt8 := vev37_1 t g n (ByteArray.mk #[]).data.toList (0 : Int) (0 : Int) false (0 : Int) (0 : Int) (0 : Int) (0 : Int) s
noncomputable def rev12_2 (l t g n : Int) (s : List UInt8) : Int := vev37_2 t g n (ByteArray.mk #[]).data.toList (0 : Int) (0 : Int) false (0 : Int) (0 : Int) (0 : Int) (0 : Int) s
noncomputable def rev12_3 (l t g n : Int) (s : List UInt8) : Int := vev37_3 t g n (ByteArray.mk #[]).data.toList (0 : Int) (0 : Int) false (0 : Int) (0 : Int) (0 : Int) (0 : Int) s
noncomputable def rev12_4 (l t g n : Int) (s : List UInt8) : Int := vev37_5 t g n (ByteArray.mk #[]).data.toList (0 : Int) (0 : Int) false (0 : Int) (0 : Int) (0 : Int) (0 : Int) s
noncomputable def rev12_5 (l t g n : Int) (s : List UInt8) : Int := vev37_6 t g n (ByteArray.mk #[]).data.toList (0 : Int) (0 : Int) false (0 : Int) (0 : Int) (0 : Int) (0 : Int) s
noncomputable def rev12_6 (l t g n : Int) (s : List UInt8) : Int := vev37_7 t g n (ByteArray.mk #[]).data.toList (0 : Int) (0 : Int) false (0 : Int) (0 : Int) (0 : Int) (0 : Int) s
noncomputable def rev12_7 (l t g n : Int) (s : List UInt8) : Int := vev37_8 t g n (ByteArray.mk #[]).data.toList (0 : Int) (0 : Int) false (0 : Int) (0 : Int) (0 : Int) (0 : Int) s
noncomputable def rev12_8 (l t g n : Int) (s : List UInt8) : List (List AV) := vev37_9 t g n (ByteArray.mk #[]).data.toList (0 : Int) (0 : Int) false (0 : Int) (0 : Int) (0 : Int) (0 : Int) s
noncomputable def vev12_0 (l t g n : Int) (s : List UInt8) : Int := bif vev34n_0 t g n (ByteArray.mk #[]).data.toList (0 : Int) (0 : Int) false (0 : Int) (0 : Int) (0 : Int) (0 : Int) then (0 : Int) else bif vev36n_0 t g n (ByteArray.mk #[]).data.toList (0 : Int) (0 : Int) false (0 : Int) (0 : Int) (0 : Int) (0 : Int) (↑s.length : Int) then (0 : Int) else bif rev12_0 l t g n s != (0 : Int) then (0 : Int) else t
noncomputable def vev12_1 (l t g n : Int) (s : List UInt8) : Int := bif vev34n_0 t g n (ByteArray.mk #[]).data.toList (0 : Int) (0 : Int) false (0 : Int) (0 : Int) (0 : Int) (0 : Int) then (0 : Int) else bif vev36n_0 t g n (ByteArray.mk #[]).data.toList (0 : Int) (0 : Int) false (0 : Int) (0 : Int) (0 : Int) (0 : Int) (↑s.length : Int) then (0 : Int) else bif rev12_0 l t g n s != (0 : Int) then (0 : Int) else g
noncomputable def vev12_2 (l t g n : Int) (s : List UInt8) : Int := bif vev34n_0 t g n (ByteArray.mk #[]).data.toList (0 : Int) (0 : Int) false (0 : Int) (0 : Int) (0 : Int) (0 : Int) then (0 : Int) else bif vev36n_0 t g n (ByteArray.mk #[]).data.toList (0 : Int) (0 : Int) false (0 : Int) (0 : Int) (0 : Int) (0 : Int) (↑s.length : Int) then (0 : Int) else bif rev12_0 l t g n s != (0 : Int) then (0 : Int) else n
noncomputable def vev12_3 (l t g n : Int) (s : List UInt8) : List UInt8 := bif vev34n_0 t g n (ByteArray.mk #[]).data.toList (0 : Int) (0 : Int) false (0 : Int) (0 : Int) (0 : Int) (0 : Int) then (ByteArray.mk #[]).data.toList else bif vev36n_0 t g n (ByteArray.mk #[]).data.toList (0 : Int) (0 : Int) false (0 : Int) (0 : Int) (0 : Int) (0 : Int) (↑s.length : Int) then (ByteArray.mk #[]).data.toList else bif rev12_0 l t g n s != (0 : Int) then (ByteArray.mk #[]).data.toList else rev12_1 l t g n s
noncomputable def vev12_4 (l t g n : Int) (s : List UInt8) : Int := bif vev34n_0 t g n (ByteArray.mk #[]).data.toList (0 : Int) (0 : Int) false (0 : Int) (0 : Int) (0 : Int) (0 : Int) then (0 : Int) else bif vev36n_0 t g n (ByteArray.mk #[]).data.toList (0 : Int) (0 : Int) false (0 : Int) (0 : Int) (0 : Int) (0 : Int) (↑s.length : Int) then (0 : Int) else bif rev12_0 l t g n s != (0 : Int) then (0 : Int) else rev12_2 l t g n s
noncomputable def vev12_5 (l t g n : Int) (s : List UInt8) : Int := bif vev34n_0 t g n (ByteArray.mk #[]).data.toList (0 : Int) (0 : Int) false (0 : Int) (0 : Int) (0 : Int) (0 : Int) then (0 : Int) else bif vev36n_0 t g n (ByteArray.mk #[]).data.toList (0 : Int) (0 : Int) false (0 : Int) (0 : Int) (0 : Int) (0 : Int) (↑s.length : Int) then (0 : Int) else bif rev12_0 l t g n s != (0 : Int) then (0 : Int) else rev12_3 l t g n s
noncomputable def vev12_6 (l t g n : Int) (s : List UInt8) : Bool := bif vev34n_0 t g n (ByteArray.mk #[]).data.toList (0 : Int) (0 : Int) false (0 : Int) (0 : Int) (0 : Int) (0 : Int) then false else bif vev36n_0 t g n (ByteArray.mk #[]).data.toList (0 : Int) (0 : Int) false (0 : Int) (0 : Int) (0 : Int) (0 : Int) (↑s.length : Int) then false else bif rev12_0 l t g n s != (0 : Int) then false else vev37_4 t g n (ByteArray.mk #[]).data.toList (0 : Int) (0 : Int) false (0 : Int) (0 : Int) (0 : Int) (0 : Int) s
noncomputable def vev12_7 (l t g n : Int) (s : List UInt8) : Int := bif vev34n_0 t g n (ByteArray.mk #[]).data.toList (0 : Int) (0 : Int) false (0 : Int) (0 : Int) (0 : Int) (0 : Int) then (0 : Int) else bif vev36n_0 t g n (ByteArray.mk #[]).data.toList (0 : Int) (0 : Int) false (0 : Int) (0 : Int) (0 : Int) (0 : Int) (↑s.length : Int) then (0 : Int) else bif rev12_0 l t g n s != (0 : Int) then (0 : Int) else rev12_4 l t g n s
noncomputable def vev12_8 (l t g n : Int) (s : List UInt8) : Int := bif vev34n_0 t g n (ByteArray.mk #[]).data.toList (0 : Int) (0 : Int) false (0 : Int) (0 : Int) (0 : Int) (0 : Int) then (0 : Int) else bif vev36n_0 t g n (ByteArray.mk #[]).data.toList (0 : Int) (0 : Int) false (0 : Int) (0 : Int) (0 : Int) (0 : Int) (↑s.length : Int) then (0 : Int) else bif rev12_0 l t g n s != (0 : Int) then (0 : Int) else rev12_5 l t g n s
noncomputable def vev12_9 (l t g n : Int) (s : List UInt8) : Int := bif vev34n_0 t g n (ByteArray.mk #[]).data.toList (0 : Int) (0 : Int) false (0 : Int) (0 : Int) (0 : Int) (0 : Int) then (0 : Int) else bif vev36n_0 t g n (ByteArray.mk #[]).data.toList (0 : Int) (0 : Int) false (0 : Int) (0 : Int) (0 : Int) (0 : Int) (↑s.length : Int) then (0 : Int) else bif rev12_0 l t g n s != (0 : Int) then (0 : Int) else rev12_6 l t g n s
noncomputable def vev12_10 (l t g n : Int) (s : List UInt8) : Int := bif vev34n_0 t g n (ByteArray.mk #[]).data.toList (0 : Int) (0 : Int) false (0 : Int) (0 : Int) (0 : Int) (0 : Int) then (0 : Int) else bif vev36n_0 t g n (ByteArray.mk #[]).data.toList (0 : Int) (0 : Int) false (0 : Int) (0 : Int) (0 : Int) (0 : Int) (↑s.length : Int) then (0 : Int) else bif rev12_0 l t g n s != (0 : Int) then (0 : Int) else rev12_7 l t g n s
noncomputable def vev12_11 (l t g n : Int) (s : List UInt8) : List (List AV) := bif vev34n_0 t g n (ByteArray.mk #[]).data.toList (0 : Int) (0 : Int) false (0 : Int) (0 : Int) (0 : Int) (0 : Int) then [] else bif vev36n_0 t g n (ByteArray.mk #[]).data.toList (0 : Int) (0 : Int) false (0 : Int) (0 : Int) (0 : Int) (0 : Int) (↑s.length : Int) then [] else bif rev12_0 l t g n s != (0 : Int) then [] else rev12_8 l t g n s
noncomputable def vev12_12 (l t g n : Int) (s : List UInt8) : Int := bif vev34n_0 t g n (ByteArray.mk #[]).data.toList (0 : Int) (0 : Int) false (0 : Int) (0 : Int) (0 : Int) (0 : Int) then (1 : Int) else bif vev36n_0 t g n (ByteArray.mk #[]).data.toList (0 : Int) (0 : Int) false (0 : Int) (0 : Int) (0 : Int) (0 : Int) (↑s.length : Int) then (6 : Int) else bif rev12_0 l t g n s != (0 : Int) then rev12_0 l t g n s else (0 : Int)
noncomputable def vev12_13 (l t g n : Int) (s : List UInt8) : Int := bif vev34n_0 t g n (ByteArray.mk #[]).data.toList (0 : Int) (0 : Int) false (0 : Int) (0 : Int) (0 : Int) (0 : Int) then vev35n_0 t g n (ByteArray.mk #[]).data.toList (0 : Int) (0 : Int) false (0 : Int) (0 : Int) (0 : Int) (0 : Int) (1 : Int) false else bif vev36n_0 t g n (ByteArray.mk #[]).data.toList (0 : Int) (0 : Int) false (0 : Int) (0 : Int) (0 : Int) (0 : Int) (↑s.length : Int) then vev35n_0 t g n (ByteArray.mk #[]).data.toList (0 : Int) (0 : Int) false (0 : Int) (0 : Int) (0 : Int) (0 : Int) (6 : Int) (t == (2 : Int)) else bif rev12_0 l t g n s != (0 : Int) then vev35_0 t g n (rev12_1 l t g n s) (rev12_2 l t g n s) (rev12_3 l t g n s) (vev37_4 t g n (ByteArray.mk #[]).data.toList (0 : Int) (0 : Int) false (0 : Int) (0 : Int) (0 : Int) (0 : Int) s) (rev12_4 l t g n s) (rev12_5 l t g n s) (rev12_6 l t g n s) (rev12_7 l t g n s) Tk.lent (rev12_8 l t g n s) (rev12_0 l t g n s) (t == (8 : Int)) else (0 : Int)
noncomputable def vev12_14 (l t g n : Int) (s : List UInt8) : Bool := bif vev34n_0 t g n (ByteArray.mk #[]).data.toList (0 : Int) (0 : Int) false (0 : Int) (0 : Int) (0 : Int) (0 : Int) then true else bif vev36n_0 t g n (ByteArray.mk #[]).data.toList (0 : Int) (0 : Int) false (0 : Int) (0 : Int) (0 : Int) (0 : Int) (↑s.length : Int) then true else bif vev37_10 t g n (ByteArray.mk #[]).data.toList (0 : Int) (0 : Int) false (0 : Int) (0 : Int) (0 : Int) (0 : Int) s then true else false
theorem ev12 (l t g n : Int) (s : List UInt8) : evFin (cfg Try.prog tab 100000 (gk k37 30) noLsp 12 ([] : List Blk).length Try.f12.ntmps) ([] : List Blk).length Try.f12.resultTypes.toList Try.f12 [.agg [.int .i64 l, .int .u8 t, .int .u8 g, .int .i64 n], .str s] [] = bif vev12_14 l t g n s then some (true, AV.tup [AV.agg [AV.int IntKind.u8 (vev12_0 l t g n s), AV.int IntKind.u8 (vev12_1 l t g n s), AV.int IntKind.i64 (vev12_2 l t g n s), AV.str (vev12_3 l t g n s), AV.int IntKind.i64 (vev12_4 l t g n s), AV.int IntKind.i64 (vev12_5 l t g n s), AV.bool (vev12_6 l t g n s), AV.int IntKind.u8 (vev12_7 l t g n s), AV.int IntKind.u32 (vev12_8 l t g n s), AV.int IntKind.i64 (vev12_9 l t g n s), AV.int IntKind.i64 (vev12_10 l t g n s), AV.sl Tk.imm [Kd.int IntKind.u16, Kd.int IntKind.u32] (vev12_11 l t g n s)], AV.agg [AV.int IntKind.u32 (vev12_12 l t g n s), AV.int IntKind.i64 (vev12_13 l t g n s)]], []) else none := by
  have h : evFin (cfg Try.prog tab 100000 (gk k37 30) noLsp 12 ([] : List Blk).length Try.f12.ntmps) ([] : List Blk).length Try.f12.resultTypes.toList Try.f12 [.agg [.int .i64 l, .int .u8 t, .int .u8 g, .int .i64 n], .str s] [] = bif vev34n_0 t g n (ByteArray.mk #[]).data.toList (0 : Int) (0 : Int) false (0 : Int) (0 : Int) (0 : Int) (0 : Int) then some (true, AV.tup [AV.agg [AV.int IntKind.u8 (0 : Int), AV.int IntKind.u8 (0 : Int), AV.int IntKind.i64 (0 : Int), AV.str (ByteArray.mk #[]).data.toList, AV.int IntKind.i64 (0 : Int), AV.int IntKind.i64 (0 : Int), AV.bool false, AV.int IntKind.u8 (0 : Int), AV.int IntKind.u32 (0 : Int), AV.int IntKind.i64 (0 : Int), AV.int IntKind.i64 (0 : Int), AV.sl Tk.imm [Kd.int IntKind.u16, Kd.int IntKind.u32] []], AV.agg [AV.int IntKind.u32 (1 : Int), AV.int IntKind.i64 (vev35n_0 t g n (ByteArray.mk #[]).data.toList (0 : Int) (0 : Int) false (0 : Int) (0 : Int) (0 : Int) (0 : Int) (1 : Int) false)]], []) else bif vev36n_0 t g n (ByteArray.mk #[]).data.toList (0 : Int) (0 : Int) false (0 : Int) (0 : Int) (0 : Int) (0 : Int) (↑s.length : Int) then some (true, AV.tup [AV.agg [AV.int IntKind.u8 (0 : Int), AV.int IntKind.u8 (0 : Int), AV.int IntKind.i64 (0 : Int), AV.str (ByteArray.mk #[]).data.toList, AV.int IntKind.i64 (0 : Int), AV.int IntKind.i64 (0 : Int), AV.bool false, AV.int IntKind.u8 (0 : Int), AV.int IntKind.u32 (0 : Int), AV.int IntKind.i64 (0 : Int), AV.int IntKind.i64 (0 : Int), AV.sl Tk.imm [Kd.int IntKind.u16, Kd.int IntKind.u32] []], AV.agg [AV.int IntKind.u32 (6 : Int), AV.int IntKind.i64 (vev35n_0 t g n (ByteArray.mk #[]).data.toList (0 : Int) (0 : Int) false (0 : Int) (0 : Int) (0 : Int) (0 : Int) (6 : Int) (t == (2 : Int)))]], []) else bif vev37_10 t g n (ByteArray.mk #[]).data.toList (0 : Int) (0 : Int) false (0 : Int) (0 : Int) (0 : Int) (0 : Int) s then bif rev12_0 l t g n s != (0 : Int) then some (true, AV.tup [AV.agg [AV.int IntKind.u8 (0 : Int), AV.int IntKind.u8 (0 : Int), AV.int IntKind.i64 (0 : Int), AV.str (ByteArray.mk #[]).data.toList, AV.int IntKind.i64 (0 : Int), AV.int IntKind.i64 (0 : Int), AV.bool false, AV.int IntKind.u8 (0 : Int), AV.int IntKind.u32 (0 : Int), AV.int IntKind.i64 (0 : Int), AV.int IntKind.i64 (0 : Int), AV.sl Tk.imm [Kd.int IntKind.u16, Kd.int IntKind.u32] []], AV.agg [AV.int IntKind.u32 (rev12_0 l t g n s), AV.int IntKind.i64 (vev35_0 t g n (rev12_1 l t g n s) (rev12_2 l t g n s) (rev12_3 l t g n s) (vev37_4 t g n (ByteArray.mk #[]).data.toList (0 : Int) (0 : Int) false (0 : Int) (0 : Int) (0 : Int) (0 : Int) s) (rev12_4 l t g n s) (rev12_5 l t g n s) (rev12_6 l t g n s) (rev12_7 l t g n s) Tk.lent (rev12_8 l t g n s) (rev12_0 l t g n s) (t == (8 : Int)))]], []) else some (true, AV.tup [AV.agg [AV.int IntKind.u8 t, AV.int IntKind.u8 g, AV.int IntKind.i64 n, AV.str (rev12_1 l t g n s), AV.int IntKind.i64 (rev12_2 l t g n s), AV.int IntKind.i64 (rev12_3 l t g n s), AV.bool (vev37_4 t g n (ByteArray.mk #[]).data.toList (0 : Int) (0 : Int) false (0 : Int) (0 : Int) (0 : Int) (0 : Int) s), AV.int IntKind.u8 (rev12_4 l t g n s), AV.int IntKind.u32 (rev12_5 l t g n s), AV.int IntKind.i64 (rev12_6 l t g n s), AV.int IntKind.i64 (rev12_7 l t g n s), AV.sl Tk.imm [Kd.int IntKind.u16, Kd.int IntKind.u32] (rev12_8 l t g n s)], AV.agg [AV.int IntKind.u32 (0 : Int), AV.int IntKind.i64 (0 : Int)]], []) else none := by kernel_rfl
  rw [h]
  clear h
  unfold vev12_0 vev12_1 vev12_2 vev12_3 vev12_4 vev12_5 vev12_6 vev12_7 vev12_8 vev12_9 vev12_10 vev12_11 vev12_12 vev12_13 vev12_14
  generalize (vev36n_0 t g n (ByteArray.mk #[]).data.toList (0 : Int) (0 : Int) false (0 : Int) (0 : Int) (0 : Int) (0 : Int) (↑s.length : Int)) = c0
  generalize (vev37_10 t g n (ByteArray.mk #[]).data.toList (0 : Int) (0 : Int) false (0 : Int) (0 : Int) (0 : Int) (0 : Int) s) = c1
  generalize (vev34n_0 t g n (ByteArray.mk #[]).data.toList (0 : Int) (0 : Int) false (0 : Int) (0 : Int) (0 : Int) (0 : Int)) = c2
  generalize (rev12_0 l t g n s != (0 : Int)) = c3
  cases c2; cases c0; cases c1; rfl; cases c3; rfl; rfl; rfl; rfl
-- spec vev12_14 l t g n s ;; (true, AV.tup [AV.agg [AV.int IntKind.u8 (vev12_0 l t g n s), AV.int IntKind.u8 (vev12_1 l t g n s), AV.int IntKind.i64 (vev12_2 l t g n s), AV.str (vev12_3 l t g n s), AV.int IntKind.i64 (vev12_4 l t g n s), AV.int IntKind.i64 (vev12_5 l t g n s), AV.bool (vev12_6 l t g n s), AV.int IntKind.u8 (vev12_7 l t g n s), AV.int IntKind.u32 (vev12_8 l t g n s), AV.int IntKind.i64 (vev12_9 l t g n s), AV.int IntKind.i64 (vev12_10 l t g n s), AV.sl Tk.imm [Kd.int IntKind.u16, Kd.int IntKind.u32] (vev12_11 l t g n s)], AV.agg [AV.int IntKind.u32 (vev12_12 l t g n s), AV.int IntKind.i64 (vev12_13 l t g n s)]], [])
noncomputable def sp12 : List AV → List Blk → Option (Bool × AV × List Blk)
  | [.agg [.int .i64 l, .int .u8 t, .int .u8 g, .int .i64 n], .str s], [] => spW (vev12_14 l t g n s) (some ((true, AV.tup [AV.agg [AV.int IntKind.u8 (vev12_0 l t g n s), AV.int IntKind.u8 (vev12_1 l t g n s), AV.int IntKind.i64 (vev12_2 l t g n s), AV.str (vev12_3 l t g n s), AV.int IntKind.i64 (vev12_4 l t g n s), AV.int IntKind.i64 (vev12_5 l t g n s), AV.bool (vev12_6 l t g n s), AV.int IntKind.u8 (vev12_7 l t g n s), AV.int IntKind.u32 (vev12_8 l t g n s), AV.int IntKind.i64 (vev12_9 l t g n s), AV.int IntKind.i64 (vev12_10 l t g n s), AV.sl Tk.imm [Kd.int IntKind.u16, Kd.int IntKind.u32] (vev12_11 l t g n s)], AV.agg [AV.int IntKind.u32 (vev12_12 l t g n s), AV.int IntKind.i64 (vev12_13 l t g n s)]], [])))
  | _, _ => none
noncomputable def k12 : Gam := fun f T C => match Nat.beq f 12 with
  | true => (sp12 T C).or (k37 f T C)
  | false => k37 f T C
theorem k12_ok : GamOK Try.prog k12 := by
  intro f T C r outs h
  unfold k12 at h
  cases hf : Nat.beq f 12 with
  | false => rw [hf] at h; exact k37_ok f T C r outs h
  | true =>
    have hf' := Nat.eq_of_beq_eq_true hf
    subst hf'
    rw [hf] at h
    dsimp only at h
    cases hs : sp12 T C with
    | none => rw [hs] at h; exact k37_ok _ T C r outs h
    | some x =>
      rw [hs] at h
      have hx : x = (true, r, outs) := by simpa using h
      subst hx
      unfold sp12 at hs
      split at hs
      · rename_i l t g n s
        obtain ⟨hb, rfl, rfl⟩ := spT_inv hs
        have he := ev12 l t g n s
        rw [hb, cond_true] at he
        obtain ⟨r0, o0, h0, he⟩ := evFin_inv he
        obtain ⟨h1, h2⟩ := fn_ok mixed plain (gk_ok k37_ok 30) Try.func12 (fun c _ => LoopsOK.none (fun _ _ => rfl) c) h0
        exact ⟨h1, h2.fin he⟩
      · cases hs
end Go.Proofs.Gv
